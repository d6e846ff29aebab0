/- Texts of the proof, joined and shortened. -/
import Derived.Test.YtmkelbnaodipcaaDoorPk4
import Derived.Test.YtmkelbnaodipcaaDoorShelf
import Derived.WalkKit
import Derived.BigCall
set_option linter.unusedVariables false
set_option linter.unusedSimpArgs false
namespace Go.Am
open Go Go.RowKit Go.Proofs
mutual
def we (a:ai):Option (ai):=(mj a ([]:List af) 0:Option ((List af)))>>=λb=>some (ai.mk a.aj a.ao a.aq a.ak b) partial_fixpoint
def mj (a:ai) (c:List af) (b:Int):Option ((List af)):=if b<(a.ae.length:Int)then idx a.ae b>>=λd=>we d.ah>>=λe=>eg 96 c ([(af.mk d.ar e)]:List af)>>=λf=>mj a f (bc (b+1))else some c partial_fixpoint
end
def x7 (a:ai) (r:ai):Prop:=ACall Tryd.prog 18 [.agg a.lit] [] (λres h=>res=.agg r.lit/\h=[])
inductive iD:ai->(List af)->Int->((List af))->Prop
 | mk (AE:ai->Option (ai)) (Ga:∀a0 r,AE a0=some r->x7 a0 r) (jL:ai->(List af)->Int->Option ((List af))) (zb:∀a0 l5 y6 o,jL a0 l5 y6=some o->iD a0 l5 y6 o) (a0:ai) (l5:List af) (y6:Int) (o:(List af)) (h:(
 (if y6<(a0.ae.length:Int)then
 idx a0.ae y6>>=λrH=>
 AE rH.ah>>=λpa=>
 eg 96 l5 ([(af.mk rH.ar pa)]:List af)>>=λoc=>
 jL a0 oc (bc (y6+1))
 else
 some l5)
 )=some o):iD a0 l5 y6 o
theorem wA {motive:ai->(List af)->Int->((List af))->Prop} (step:∀(e:ai->Option (ai)) (j:∀a r,e a=some r->x7 a r) (d:ai->(List af)->Int->Option ((List af))) (k:∀a c b o,d a c b=some o->iD a c b o) (a:ai) (c:List af) (b:Int) (o:(List af)) (h:(
 (if b<(a.ae.length:Int)then
 idx a.ae b>>=λf=>
 e f.ah>>=λg=>
 eg 96 c ([(af.mk f.ar g)]:List af)>>=λi=>
 d a i (bc (b+1))
 else
 some c)
 )=some o) (l:∀a c b o,d a c b=some o->motive a c b o),motive a c b o):∀a c b o,iD a c b o->motive a c b o:=
 λa c b o h=>iD.rec (motive:=λa c b o _=>motive a c b o) step h
theorem Gb:(∀a r,we a=some r->x7 a r)/\(∀a c e o,mj a c e=some o->iD a c e o):=by
 refine we.mutual_partial_correctness x7 iD ?_ ?_;intro _ v a r h;refine gD Tryd.func18 ?_;refine .d (.d ⟨rfl,_,rfl,⟨rfl,_,λ_=>[.int .i64 a.aj,.int .i64 a.ao,.str a.aq,.int .i64 a.ak,sl 8 af.cells a.ae],rfl,aB rfl,(.d ⟨rfl,⟨rfl,_,λ_=>[.int .i64 a.aj,.int .i64 a.ao,.str a.aq,.int .i64 a.ak,.aD],rfl,aB rfl,?_⟩⟩)⟩⟩);obtain⟨j,w,x⟩:=bd h;replace h:=w;refine .cut (λσ η=>∃f,f=j/\σ=[(2,.aH 0 0 0 0),(3,.aH 1 0 0 0)]/\η=[.row 0 5 1 26 (λ_=>[.int .i64 0,.int .i64 0,.str [],.int .i64 0,.aD]),.row 0 5 1 26 (λ_=>[.int .i64 a.aj,.int .i64 a.ao,.str a.aq,.int .i64 a.ak,.own 2 0 0 f.length]),.row 0 8 f.length 51 (row af.cells f)]) ?_ ?_;refine .d ⟨rfl,⟨rfl,_,rfl,?_⟩⟩;have y:=v _ _ _ _ h;refine le (wA (motive:=λq c e t=>a=q->j=t->a7 _ _ [(2,.aH 0 0 0 0),(3,.aH 1 0 0 0),(9,sl 8 af.cells a.ae),(10,.int .i64 (a.ae.length:Int)),(11,.int .i64 e)] [.row 0 5 1 26 (λ_=>[.int .i64 0,.int .i64 0,.str [],.int .i64 0,.aD]),.row 0 5 1 26 (λ_=>[.int .i64 a.aj,.int .i64 a.ao,.str a.aq,.int .i64 a.ak,.own 2 0 0 c.length]),.row 0 8 c.length 51 (row af.cells c)]) ?_ a ([]:List af) 0 j y rfl rfl) (tk [1,2,5] ⟨.p,.p,.l,.i,.i,⟨⟩⟩ ⟨(nb rfl ⟨.i,.i,.s,.i,.aD,⟨⟩⟩),(nb rfl ⟨.i,.i,.s,.i,.g,⟨⟩⟩),gh,⟨⟩⟩);intro _ z _ _ q c e t h A  B C;subst B;subst C;refine a7.round (.d (.d (sD h (λD h=>?_) (λD h=>?_))));refine .d (.d (bk h λb u h=>⟨bP u,_,(bx u).trans (af.aO b),⟨rfl,_,λ_=>[.bool b.ar.av,.int .i64 b.ar.ao,.str b.ar.aq,.int .i64 b.ah.aj,.int .i64 b.ah.ao,.str b.ah.aq,.int .i64 b.ah.ak,sl 8 af.cells b.ah.ae],rfl,aB rfl,(.float [(0,true),(1,true),(2,true),(3,true),(4,true),(5,true),(6,false),(7,true),(8,false),(9,false),(10,true),(11,false)] UR ?_)⟩⟩));refine⟨rfl,⟨rfl,_,rfl,⟨rfl,⟨rfl,_,rfl,⟨rfl,⟨rfl,_,rfl,(bk h λk E h=>(dS (z _ _ E) ⟨rfl,⟨rfl,⟨rfl,⟨rfl,⟨row af.cells ([(af.mk b.ar k)]:List af),cA af.cells ([(af.mk b.ar k)]:List af) rfl (iE (af.aO _) ⟨.same _,.same _,.same _,.same _,.same _,.same _,.same _,.same _,trivial⟩ trivial),⟨rfl,⟨rfl,?_⟩⟩⟩⟩⟩⟩⟩))⟩⟩⟩⟩⟩⟩;exact bk h λm n h=>(.fG ⟨rfl,rfl,kb (l:=([(af.mk b.ar k)]:List af)) aS,dV n,m.length,row af.cells m,dw n,dE n aS (ik aS),⟨rfl,⟨rfl,_,λ_=>[.int .i64 a.aj,.int .i64 a.ao,.str a.aq,.int .i64 a.ak,.own 2 (0+1) 0 m.length],rfl,aB rfl,(lg (A _ _ _ _ h rfl rfl) (tk [0,1,2] ⟨.p,.p,.l,.i,.i,⟨⟩⟩ ⟨(nb rfl ⟨.i,.i,.s,.i,.aD,⟨⟩⟩),(nb rfl ⟨.i,.i,.s,.i,.o,⟨⟩⟩),nw,⟨⟩⟩))⟩⟩⟩);exact ct ⟨_,si h,rfl,rfl⟩ (tk [0,1,2] ⟨.p,.p,⟨⟩⟩ ⟨(nb rfl ⟨.i,.i,.s,.i,.aD,⟨⟩⟩),(nb rfl ⟨.i,.i,.s,.i,.o,⟨⟩⟩),nw,⟨⟩⟩);rintro _ _ ⟨f,rfl,rfl,rfl⟩;replace h:=x;refine .d ⟨rfl,_,rfl,⟨rfl,_,λ_=>[.int .i64 a.aj,.int .i64 a.ao,.str a.aq,.int .i64 a.ak,.own 2 0 0 f.length],rfl,aB rfl,?_⟩⟩;exact Uk;intro F G H I a c e o h;exact .mk F H G I a c e o h
theorem wF {a:ai} {r:ai} (h:we a=some r):ACall Tryd.prog 18 [.agg a.lit] [] (λres h=>res=.agg r.lit/\h=[]):=Gb.1 a r h
mutual
def EV (a:ai) (b:Int):Option (Int):=(kQ a b 1 0:Option (Int))>>=λc=>some c partial_fixpoint
def kQ (b:ai) (c:Int) (a:Int) (d:Int):Option (Int):=if b.aj=4 then if d<(b.ae.length:Int)then if a<=c then idx b.ae d>>=λe=>EV e.ah (bc (c - a))>>=λf=>kQ b c (bc (a+f)) (bc (d+1))else some a else some a else some a partial_fixpoint
end
def yb (a:ai) (b:Int) (r:Int):Prop:=ACall Tryd.prog 21 [.agg a.lit,.int .i64 b] [] (λres h=>res=.int .i64 r/\h=[])
inductive iF:ai->Int->Int->Int->(Int)->Prop
 | mk (Jb:ai->Int->Option (Int)) (Ma:∀a0 a1 r,Jb a0 a1=some r->yb a0 a1 r) (jM:ai->Int->Int->Int->Option (Int)) (ze:∀a0 a1 y5 y6 o,jM a0 a1 y5 y6=some o->iF a0 a1 y5 y6 o) (a0:ai) (a1:Int) (y5:Int) (y6:Int) (o:Int) (h:(
 (if a0.aj=4 then
 (if y6<(a0.ae.length:Int)then
 (if y5<=a1 then
 idx a0.ae y6>>=λzd=>
 Jb zd.ah (bc (a1 - y5))>>=λwg=>
 jM a0 a1 (bc (y5+wg)) (bc (y6+1))
 else
 some y5)
 else
 some y5)
 else
 some y5)
 )=some o):iF a0 a1 y5 y6 o
theorem wG {motive:ai->Int->Int->Int->(Int)->Prop} (step:∀(f:ai->Int->Option (Int)) (j:∀a b r,f a b=some r->yb a b r) (e:ai->Int->Int->Int->Option (Int)) (k:∀a b c d o,e a b c d=some o->iF a b c d o) (a:ai) (b:Int) (c:Int) (d:Int) (o:Int) (h:(
 (if a.aj=4 then
 (if d<(a.ae.length:Int)then
 (if c<=b then
 idx a.ae d>>=λg=>
 f g.ah (bc (b - c))>>=λi=>
 e a b (bc (c+i)) (bc (d+1))
 else
 some c)
 else
 some c)
 else
 some c)
 )=some o) (l:∀a b c d o,e a b c d=some o->motive a b c d o),motive a b c d o):∀a b c d o,iF a b c d o->motive a b c d o:=
 λa b c d o h=>iF.rec (motive:=λa b c d o _=>motive a b c d o) step h
theorem Gd:(∀a b r,EV a b=some r->yb a b r)/\(∀a b c e o,kQ a b c e=some o->iF a b c e o):=by
 refine EV.mutual_partial_correctness yb iF ?_ ?_;intro _ q a b r h;refine gD Tryd.func21 ?_;refine .d (.d ?_);obtain⟨g,s,u⟩:=bd h;replace h:=s;refine .cut (λσ η=>∃j,j=g/\σ=[(5,.int .i64 j)]/\η=[]) ?_ ?_;refine .d ?_;have v:=q _ _ _ _ _ h;refine le (wG (motive:=λk l c e m=>a=k->b=l->g=m->a7 _ _ [(1,.int .i64 b),(2,.aH 0 0 0 0),(5,.int .i64 c),(6,.int .i64 e)] [.row 0 5 1 26 (λ_=>a.lit)]) ?_ a b 1 0 g v rfl rfl rfl) (tk [0] ⟨.i,.p,.i,.i,⟨⟩⟩ ⟨(ed rfl),⟨⟩⟩);intro _ w _ _ k l c e m h x  y z A;subst y;subst z;subst A;refine a7.round (.d (.d ⟨rfl,⟨rfl,_,rfl,(sE h (λB h=>?_) (λB h=>?_))⟩⟩));refine .t ⟨rfl,(.t ⟨rfl,_,rfl,(.t (.t (.t (sD h (λC h=>?_) (λC h=>?_)))))⟩)⟩;refine .t (.t (.t (sD h (λD h=>?_) (λD h=>?_))));exact .d ⟨rfl,⟨rfl,_,rfl,(bk h λE n h=>⟨bP n,_,(bx n).trans (af.aO E),(bk h λK F h=>(dS (w _ _ _ F) (lg (x _ _ _ _ _ h rfl rfl rfl) (tk [0] ⟨.i,.p,.i,.i,⟨⟩⟩ ⟨(ed rfl),⟨⟩⟩))))⟩)⟩⟩;exact UK;exact .f (.f (.f (.f (ct ⟨_,si h,rfl,rfl⟩ (tk [] ⟨.i,⟨⟩⟩ ⟨⟩)))));exact .f (.f (.f (.f (.f (.f (.f (.f (.f (.f (ct ⟨_,si h,rfl,rfl⟩ (tk [] ⟨.i,⟨⟩⟩ ⟨⟩)))))))))));rintro _ _ ⟨j,rfl,rfl,rfl⟩;replace h:=u;exact .d (eI h);intro G H I J a b c e o h;exact .mk G I H J a b c e o h
theorem Md {a:ai} {b:Int} {r:Int} (h:EV a b=some r):ACall Tryd.prog 21 [.agg a.lit,.int .i64 b] [] (λres h=>res=.int .i64 r/\h=[]):=Gd.1 a b r h
mutual
def eJ (a:ai):Option (Int):=((if a.aj=4 then dy a 1 0 else some 1):Option (Int))>>=λb=>some b partial_fixpoint
def dy (a:ai) (c:Int) (b:Int):Option (Int):=if b<(a.ae.length:Int)then idx a.ae b>>=λd=>eJ d.ah>>=λe=>dy a (bc (c+e)) (bc (b+1))else some c partial_fixpoint
end
def yc (a:ai) (r:Int):Prop:=ACall Tryd.prog 20 [.agg a.lit] [] (λres h=>res=.int .i64 r/\h=[])
inductive cO:ai->Int->Int->(Int)->Prop
 | mk (Jc:ai->Option (Int)) (Me:∀a0 r,Jc a0=some r->yc a0 r) (dr:ai->Int->Int->Option (Int)) (ox:∀a0 y6 y7 o,dr a0 y6 y7=some o->cO a0 y6 y7 o) (a0:ai) (y6:Int) (y7:Int) (o:Int) (h:(
 (if y7<(a0.ae.length:Int)then
 idx a0.ae y7>>=λwH=>
 Jc wH.ah>>=λuB=>
 dr a0 (bc (y6+uB)) (bc (y7+1))
 else
 some y6)
 )=some o):cO a0 y6 y7 o
theorem mV {motive:ai->Int->Int->(Int)->Prop} (step:∀(e:ai->Option (Int)) (i:∀a r,e a=some r->yc a r) (d:ai->Int->Int->Option (Int)) (j:∀a c b o,d a c b=some o->cO a c b o) (a:ai) (c:Int) (b:Int) (o:Int) (h:(
 (if b<(a.ae.length:Int)then
 idx a.ae b>>=λf=>
 e f.ah>>=λg=>
 d a (bc (c+g)) (bc (b+1))
 else
 some c)
 )=some o) (k:∀a c b o,d a c b=some o->motive a c b o),motive a c b o):∀a c b o,cO a c b o->motive a c b o:=
 λa c b o h=>cO.rec (motive:=λa c b o _=>motive a c b o) step h
theorem rJ:(∀a r,eJ a=some r->yc a r)/\(∀a c e o,dy a c e=some o->cO a c e o):=by
 refine eJ.mutual_partial_correctness yc cO ?_ ?_;intro _ n a r h;refine gD Tryd.func20 ?_;refine .d (.d ?_);obtain⟨f,p,q⟩:=bd h;replace h:=p;refine .cut (λσ η=>∃g,g=f/\σ=[(3,.int .i64 g)]/\η=[]) ?_ ?_;refine .d ⟨rfl,⟨rfl,_,rfl,(sE h (λs h=>?_) (λs h=>?_))⟩⟩;refine .d ⟨rfl,⟨rfl,_,rfl,?_⟩⟩;have t:=n _ _ _ _ h;refine le (mV (motive:=λj c e k=>a=j->f=k->a7 _ _ [(3,.int .i64 c),(10,sl 8 af.cells a.ae),(11,.int .i64 (a.ae.length:Int)),(12,.int .i64 e)] []) ?_ a 1 0 f t rfl rfl) (tk [] ⟨.i,.l,.i,.i,⟨⟩⟩ ⟨⟩);intro _ u _ _ j c e k h v  w x;subst w;subst x;refine a7.round (.d (.d (sD h (λy h=>?_) (λy h=>?_))));exact .d (.d (bk h λb m h=>⟨bP m,_,(bx m).trans (af.aO b),⟨rfl,_,λ_=>[.bool b.ar.av,.int .i64 b.ar.ao,.str b.ar.aq,.int .i64 b.ah.aj,.int .i64 b.ah.ao,.str b.ah.aq,.int .i64 b.ah.ak,sl 8 af.cells b.ah.ae],rfl,aB rfl,⟨rfl,⟨rfl,_,rfl,(bk h λE z h=>(dS (u _ _ z) (lg (v _ _ _ _ h rfl rfl) (tk [] ⟨.i,.l,.i,.i,⟨⟩⟩ ⟨⟩))))⟩⟩⟩⟩));exact UK;exact UK;rintro _ _ ⟨g,rfl,rfl,rfl⟩;replace h:=q;exact .d (eI h);intro A B C D a c e o h;exact .mk A C B D a c e o h
theorem pc {a:ai} {r:Int} (h:eJ a=some r):ACall Tryd.prog 20 [.agg a.lit] [] (λres h=>res=.int .i64 r/\h=[]):=rJ.1 a r h
def kS (b:cR) (a:Int):Option (cR):=if a=0 then some b else if(a.tmod 10)<0 then wJ ([UInt8.ofNat (IntKind.u8.wrap (bc (48+(bc (0 - (a.tmod 10)))))).toNat]:List UInt8) b>>=λc=>kS c (bc (a.tdiv 10))else wJ ([UInt8.ofNat (IntKind.u8.wrap (bc (48+(a.tmod 10)))).toNat]:List UInt8) b>>=λd=>kS d (bc (a.tdiv 10)) partial_fixpoint
def Je (a:Int):Option (cR):=if a=0 then some [48]else(kS [] a:Option (cR))>>=λb=>if a<0 then wJ [45] b>>=λc=>some c else some b
theorem Mk {b:Int} {r:cR} (h:Je b=some r):ACall Tryd.prog 57 [.int .i64 b] [] (λres h=>res=.str r/\h=[]):=by
 refine gD Tryd.func57 ?_;unfold Je at h;refine .d (.d (.d (sE h (λn h=>?_) (λn h=>?_))));exact .d (eS h);refine .d ?_;obtain⟨c,o,p⟩:=bd h;replace h:=o;refine .cut (λσ η=>∃e,e=c/\σ=[(0,.int .i64 b),(3,.str e)]/\η=[]) ?_ ?_;refine .d ?_;refine le (kS.partial_correctness  (motive:=λf a g=>c=g->a7 _ _ [(0,.int .i64 b),(3,.str f),(4,.int .i64 a)] []) ?_ [] b c h rfl) (tk [] ⟨.i,.s,.i,⟨⟩⟩ ⟨⟩);intro z j f a g h q;subst q;refine a7.round (.d (.d (sN h (λt h=>?_) (λt h=>?_))));refine .d (.d ⟨by decide,(.d (.d (sD h (λu h=>?_) (λu h=>?_))))⟩);exact⟨row cB ([UInt8.ofNat (IntKind.u8.wrap (bc (48+(bc (0 - (a.tmod 10)))))).toNat]:List UInt8),cA cB ([UInt8.ofNat (IntKind.u8.wrap (bc (48+(bc (0 - (a.tmod 10)))))).toNat]:List UInt8) rfl (iE (yd _) ⟨.same _,trivial⟩ trivial),⟨rfl,([UInt8.ofNat (IntKind.u8.wrap (bc (48+(bc (0 - (a.tmod 10)))))).toNat]:List UInt8),rfl,pd aS rfl,(bk h λv k h=>⟨tg k,v,th k,⟨by decide,(lg (j _ _ _ h rfl) (tk [] ⟨.i,.s,.i,⟨⟩⟩ ⟨⟩))⟩⟩)⟩⟩;exact⟨row cB ([UInt8.ofNat (IntKind.u8.wrap (bc (48+(a.tmod 10)))).toNat]:List UInt8),cA cB ([UInt8.ofNat (IntKind.u8.wrap (bc (48+(a.tmod 10)))).toNat]:List UInt8) rfl (iE (yd _) ⟨.same _,trivial⟩ trivial),⟨rfl,([UInt8.ofNat (IntKind.u8.wrap (bc (48+(a.tmod 10)))).toNat]:List UInt8),rfl,pd aS rfl,(bk h λw l h=>⟨tg l,w,th l,⟨by decide,(lg (j _ _ _ h rfl) (tk [] ⟨.i,.s,.i,⟨⟩⟩ ⟨⟩))⟩⟩)⟩⟩;exact ct ⟨_,si h,rfl,rfl⟩ (tk [] ⟨.i,.s,⟨⟩⟩ ⟨⟩);rintro _ _ ⟨e,rfl,rfl,rfl⟩;refine .d (.d (sD p (λx h=>?_) (λx h=>?_)));exact .d (bk h λy m h=>⟨tg m,y,th m,(eS h)⟩);exact .d (eS h)
def ml (a:cR) (c:Int) (b:Int):Option ((Int) ⊕ (Int×Bool)):=if b<(a.length:Int)then uJ a b>>=λd=>AJ (bc ((d.toNat:Int))) 48 57>>=λe=>if e then uJ a b>>=λf=>ml a (bc ((bc (10*c))+(bc (IntKind.u8.wrap ((f.toNat:Int) - 48))))) (bc (b+1))else some (.inr (0,false))else some (.inl c) partial_fixpoint
def Jf (a:cR):Option (Int×Bool):=AJ (a.length:Int) 1 13>>=λc=>if c then((ml a 0 0:Option ((Int) ⊕ (Int×Bool)))>>=λd=>match d with | .inr r=>some r | .inl b=>if b>1000000000000 then some (0,false)else Je b>>=λe=>if e=a then some (b,true)else some (0,false))else some (0,false)
theorem Mn {a:cR} {r:Int×Bool} (h:Jf a=some r):ACall Tryd.prog 54 [.str a] [] (λres h=>res=.db [.int .i64 r.1,.bool r.2]/\h=[]):=by
 refine gD Tryd.func54 ?_;unfold Jf at h;refine .d (.d (.d (bk h λD n h=>(dS (wK n) (mR h (λo h=>?_) (λo h=>?_))))));refine .d ?_;exact Uc;refine .d ?_;obtain⟨b,p,e⟩:=bd h;replace h:=p;refine .cut (λσ η=>∃c,.inl c=b/\σ=[(0,.str a),(4,.int .i64 c)]/\η=[]) ?_ ?_;refine .d ?_;refine le (ml.partial_correctness a (motive:=λg j k=>b=k->a7 _ _ [(0,.str a),(4,.int .i64 g),(5,.int .i64 j)] []) ?_ 0 0 b h rfl) (tk [] ⟨.s,.i,.i,⟨⟩⟩ ⟨⟩);intro E q g j k h u;subst u;refine a7.round (.d (.d (sD h (λv h=>?_) (λv h=>?_))));refine .d (.d (.d (bk h λw l h=>⟨tl l,w,tm l,(bk h λF x h=>(dS (wK x) (mR h (λy h=>?_) (λy h=>?_))))⟩)));refine .d ?_;obtain rfl:=si h;replace h:=e;exact Uc;exact bk h λz m h=>⟨tl m,z,tm m,(lg (q _ _ _ h rfl) (tk [] ⟨.s,.i,.i,⟨⟩⟩ ⟨⟩))⟩;exact ct ⟨_,si h,rfl,rfl⟩ (tk [] ⟨.s,.i,⟨⟩⟩ ⟨⟩);rintro _ _ ⟨c,rfl,rfl,rfl⟩;refine .d (.d (sD e (λA h=>?_) (λA h=>?_)));refine .t (.t (.t (.t (.t (.d ?_)))));exact Uc;refine .f (bk h λG B h=>(dS (Mk B) (.f (.f (.f (LF h (λC h=>?_) (λC h=>?_)))))));refine .d ?_;exact Uc;refine .d ?_;exact Uc
def Jg (a:cR):Option (Int×Bool):=((if(a.length:Int)>0 then uJ a 0>>=λd=>some ((d.toNat:Int)==45)else some false):Option (Bool))>>=λc=>((if c then uK a 1>>=λe=>some e else some a):Option (cR))>>=λf=>Jf f>>=λ(b,g)=>if g then if b>1000000000 then some (0,false)else if c then if b=0 then some (0,false)else some (bc (0 - b),true)else some (b,true)else some (0,false)
theorem Mr {c:cR} {r:Int×Bool} (h:Jg c=some r):ACall Tryd.prog 48 [.str c] [] (λres h=>res=.db [.int .i64 r.1,.bool r.2]/\h=[]):=by
 refine gD Tryd.func48 ?_;unfold Jg at h;refine .d ?_;obtain⟨k,l,m⟩:=bd h;replace h:=l;refine .cut (λσ η=>∃a,a=k/\σ=[(0,.str c),(4,.bool a)]/\η=[]) ?_ ?_;refine sD h (λn h=>?_) (λn h=>?_);exact .t (bk h λo i h=>⟨tl i,o,tm i,(.t (.t (ct ⟨_,si h,rfl,rfl⟩ (tk [] ⟨.s,.b,⟨⟩⟩ ⟨⟩))))⟩);exact .f (.f (.f (ct ⟨_,si h,rfl,rfl⟩ (tk [] ⟨.s,.b,⟨⟩⟩ ⟨⟩))));rintro _ _ ⟨a,rfl,rfl,rfl⟩;obtain⟨p,q,u⟩:=bd m;replace h:=q;refine .cut (λσ η=>∃e,e=p/\σ=[(0,.str e),(4,.bool a)]/\η=[]) ?_ ?_;refine .d (sV h (λv h=>?_) (λv h=>?_));exact bk h λw j h=>⟨AP j,w,AQ j,(ct ⟨_,si h,rfl,rfl⟩ (tk [] ⟨.s,.b,⟨⟩⟩ ⟨⟩))⟩;exact ct ⟨_,si h,rfl,rfl⟩ (tk [] ⟨.s,.b,⟨⟩⟩ ⟨⟩);rintro _ _ ⟨e,rfl,rfl,rfl⟩;replace h:=u;refine .d ?_;obtain⟨⟨B,C⟩,x,h⟩:=bd h;refine dS (Mn x) (.d (.d (mR h (λy h=>?_) (λy h=>?_))));refine .t (.t (.t (.t (.t (.t (.t (.d ?_)))))));exact Uc;refine .f (.f (sD h (λz h=>?_) (λz h=>?_)));refine .t (.t (.t (.t (.d ?_))));exact Uc;refine .f (sV h (λg h=>?_) (λg h=>?_));refine .t (.f (.t (.f (sE h (λA h=>?_) (λA h=>?_)))));refine .d ?_;exact Uc;refine .d (.d (.kt g (.d ?_)));exact Uc;refine .f (.f (.f (.f (.f (.d (.d (.kf g (.d ?_))))))));exact Uc
def m23 (a:az):Option (Bool):=if a.av=true then Jg a.aq>>=λ(d,b)=>if a.ao=0 then if(a.aq.length:Int)<=400 then some (!b)else some false else some false else AJ a.ao (-1000000000) 1000000000>>=λc=>if c then some (a.aq==([]:cR))else some false
theorem Ms {a:az} {r:Bool} (h:m23 a=some r):ACall Tryd.prog 39 [.agg a.lit] [] (λres h=>res=.bool r/\h=[]):=by
 refine gD Tryd.func39 ?_;unfold m23 at h;refine .d (.d (.d ⟨rfl,⟨rfl,_,rfl,(mR h (λb h=>?_) (λb h=>?_))⟩⟩));refine .d ⟨rfl,⟨rfl,_,rfl,(bk h λk c h=>(dS (wK c) (sV h (λe h=>?_) (λe h=>?_))))⟩⟩;exact⟨rfl,(.t ⟨rfl,_,rfl,(.t (.t (eB h)))⟩)⟩;exact .f (.f (.f (eB h)));refine .d ⟨rfl,⟨rfl,_,rfl,?_⟩⟩;obtain⟨⟨l,m⟩,g,h⟩:=bd h;refine dS (Mr g) (.d ⟨rfl,⟨rfl,_,rfl,(sE h (λi h=>?_) (λi h=>?_))⟩⟩);refine⟨rfl,(.t ⟨rfl,_,rfl,(.t (.t (.t (sD h (λj h=>?_) (λj h=>?_)))))⟩)⟩;exact .t (.t (eB h));exact .f (.f (eB h));exact .f (.f (.f (.f (.f (.f (.f (eB h)))))))
mutual
def EW (a:ai):Option (Bool):=(((if a.aj=3 then if a.aj=4 then some (.inl ())else if a.ak=0 then if(a.ae.length:Int)>0 then some (.inr false)else some (.inl ())else some (.inr false)else if a.aq=([]:cR)then if a.aj=4 then some (.inl ())else if a.ak=0 then if(a.ae.length:Int)>0 then some (.inr false)else some (.inl ())else some (.inr false)else some (.inr false)):Option ((Unit) ⊕ Bool))>>=λo1=>match o1 with | .inr r=>some r | .inl _=>(((if a.aj=0 then some (.inr (a.ao==0))else if a.aj=1 then AJ a.ao 0 1>>=λd=>some (.inr d)else if a.aj=2 then AJ a.ao (-1000000000) 1000000000>>=λb=>some (.inr b)else if a.aj=3 then if a.ao=0 then some (.inr (decide ((a.aq.length:Int)<=400)))else some (.inr false)else((if a.aj=6 then some (a.aj==6)else if a.aj=7 then some (a.aj==7)else some (a.aj==8)):Option (Bool))>>=λe=>if e then AJ a.ao 0 255>>=λc=>some (.inr c)else if a.aj=4 then if a.ao=0 then AJ a.ak 0 1000000001>>=λf=>if f then((kV a 0:Option ((Unit) ⊕ ((Unit) ⊕ Bool)))>>=λg=>match g with | .inr r=>some r | .inl _=>some (.inr true))else some (.inr false)else some (.inr false)else some (.inl ())):Option ((Unit) ⊕ Bool))>>=λh=>match h with | .inr r=>some r | .inl _=>some false)) partial_fixpoint
def kV (a:ai) (b:Int):Option ((Unit) ⊕ ((Unit) ⊕ Bool)):=if b<(a.ae.length:Int)then idx a.ae b>>=λc=>m23 c.ar>>=λe=>if e then if c.ar.av=true then uC a c.ar>>=λf=>if f=b then idx a.ae b>>=λg=>EW g.ah>>=λh=>if h then kV a (bc (b+1))else some (.inr (.inr false))else some (.inr (.inr false))else if c.ar.ao>=a.ak then some (.inr (.inr false))else uC a c.ar>>=λd=>if d=b then idx a.ae b>>=λi=>EW i.ah>>=λj=>if j then kV a (bc (b+1))else some (.inr (.inr false))else some (.inr (.inr false))else some (.inr (.inr false))else some (.inl ()) partial_fixpoint
end
def ye (a:ai) (r:Bool):Prop:=ACall Tryd.prog 22 [.agg a.lit] [] (λres h=>res=.bool r/\h=[])
inductive iH:ai->Int->((Unit) ⊕ ((Unit) ⊕ Bool))->Prop
 | mk (Gp:ai->Option (Bool)) (Mt:∀a0 r,Gp a0=some r->ye a0 r) (gU:ai->Int->Option ((Unit) ⊕ ((Unit) ⊕ Bool))) (zi:∀a0 dn o,gU a0 dn=some o->iH a0 dn o) (a0:ai) (dn:Int) (o:(Unit) ⊕ ((Unit) ⊕ Bool)) (h:(
 (if dn<(a0.ae.length:Int)then
 idx a0.ae dn>>=λeT=>
 m23 eT.ar>>=λpW=>
 (if pW=true then
 (if eT.ar.av=true then
 uC a0 eT.ar>>=λID=>
 (if ID=dn then
 idx a0.ae dn>>=λGm=>
 Gp Gm.ah>>=λIE=>
 (if IE=true then
 gU a0 (bc (dn+1))
 else
 some (.inr (.inr false)))
 else
 some (.inr (.inr false)))
 else
 (if eT.ar.ao>=a0.ak then
 some (.inr (.inr false))
 else
 uC a0 eT.ar>>=λv53=>
 (if v53=dn then
 idx a0.ae dn>>=λGn=>
 Gp Gn.ah>>=λIF=>
 (if IF=true then
 gU a0 (bc (dn+1))
 else
 some (.inr (.inr false)))
 else
 some (.inr (.inr false)))))
 else
 some (.inr (.inr false)))
 else
 some (.inl ()))
 )=some o):iH a0 dn o
theorem wL {motive:ai->Int->((Unit) ⊕ ((Unit) ⊕ Bool))->Prop} (step:∀(e:ai->Option (Bool)) (n:∀a r,e a=some r->ye a r) (d:ai->Int->Option ((Unit) ⊕ ((Unit) ⊕ Bool))) (p:∀a b o,d a b=some o->iH a b o) (a:ai) (b:Int) (o:(Unit) ⊕ ((Unit) ⊕ Bool)) (h:(
 (if b<(a.ae.length:Int)then
 idx a.ae b>>=λc=>
 m23 c.ar>>=λg=>
 (if g=true then
 (if c.ar.av=true then
 uC a c.ar>>=λi=>
 (if i=b then
 idx a.ae b>>=λj=>
 e j.ah>>=λk=>
 (if k=true then
 d a (bc (b+1))
 else
 some (.inr (.inr false)))
 else
 some (.inr (.inr false)))
 else
 (if c.ar.ao>=a.ak then
 some (.inr (.inr false))
 else
 uC a c.ar>>=λf=>
 (if f=b then
 idx a.ae b>>=λl=>
 e l.ah>>=λm=>
 (if m=true then
 d a (bc (b+1))
 else
 some (.inr (.inr false)))
 else
 some (.inr (.inr false)))))
 else
 some (.inr (.inr false)))
 else
 some (.inl ()))
 )=some o) (q:∀a b o,d a b=some o->motive a b o),motive a b o):∀a b o,iH a b o->motive a b o:=
 λa b o h=>iH.rec (motive:=λa b o _=>motive a b o) step h
theorem Gq:(∀a r,EW a=some r->ye a r)/\(∀a b o,kV a b=some o->iH a b o):=by
 refine EW.mutual_partial_correctness ye iH ?_ ?_;intro _ u a r h;refine gD Tryd.func22 ?_;refine .d ?_;obtain⟨o1,v,tt⟩:=bd h;replace h:=v;refine .cut (λσ η=>.inl ()=o1/\σ=[(1,.aH 0 0 0 0)]/\η=[.row 0 5 1 26 (λ_=>a.lit)]) ?_ ?_;refine .d ⟨rfl,⟨rfl,_,rfl,(sN h (λw h=>?_) (λw h=>?_))⟩⟩;refine⟨rfl,(.t ⟨rfl,_,rfl,(.t (.t (LF h (λx h=>?_) (λx h=>?_))))⟩)⟩;refine .t (.t (.t (.t (.t (.t (.d ?_))))));exact T9;refine⟨rfl,(.f ⟨rfl,_,rfl,(.f (.f (sN h (λy h=>?_) (λy h=>?_))))⟩)⟩;refine⟨rfl,(.t ⟨rfl,_,rfl,(.t (.t (sN h (λz h=>?_) (λz h=>?_))))⟩)⟩;refine .t (.t (.t (.t (.t (.f (.t (.f (.t (.d ?_)))))))));exact T9;refine⟨rfl,(.f ⟨rfl,_,rfl,(.f (.f (.t (.f (.f (.t (.f (sD h (λA h=>?_) (λA h=>?_)))))))))⟩)⟩;refine .d ?_;exact T9;exact Uy;exact Uu;refine .f (.f (.f (.f ⟨rfl,(.f ⟨rfl,_,rfl,(.f (.f (sN h (λB h=>?_) (λB h=>?_))))⟩)⟩)));refine⟨rfl,(.t ⟨rfl,_,rfl,(.t (.t (sN h (λC h=>?_) (λC h=>?_))))⟩)⟩;refine .t (.t (.t (.t (.t (.f (.t (.f (.t (.d ?_)))))))));exact T9;refine⟨rfl,(.f ⟨rfl,_,rfl,(.f (.f (.t (.f (.f (.t (.f (sD h (λD h=>?_) (λD h=>?_)))))))))⟩)⟩;refine .d ?_;exact T9;exact Uy;exact Uu;rintro _ _ ⟨rfl,rfl,rfl⟩;obtain⟨E,F,eh⟩:=bd tt;replace h:=F;refine .cut (λσ η=>.inl ()=E/\σ=[]/\η=[]) ?_ ?_;refine .d ⟨rfl,⟨rfl,_,rfl,(.d (sE h (λG h=>?_) (λG h=>?_)))⟩⟩;refine .d ⟨rfl,⟨rfl,_,rfl,?_⟩⟩;exact T8;refine .d (sE h (λH h=>?_) (λH h=>?_));refine .d ⟨rfl,⟨rfl,_,rfl,(bk h λmS I h=>(dS (wK I) ?_))⟩⟩;exact T8;refine .d (sE h (λJ h=>?_) (λJ h=>?_));refine .d ⟨rfl,⟨rfl,_,rfl,(bk h λK L h=>(dS (wK L) ?_))⟩⟩;exact T8;refine .d (sE h (λM h=>?_) (λM h=>?_));refine .d ⟨rfl,⟨rfl,_,rfl,(sE h (λN h=>?_) (λN h=>?_))⟩⟩;refine⟨rfl,(.t ⟨rfl,_,rfl,(.t (.t (.t ?_)))⟩)⟩;exact T8;refine .f (.f (.f (.f ?_)));exact T8;obtain⟨O,P,Q⟩:=bd h;replace h:=P;refine .cut (λσ η=>∃e,e=O/\σ=[(1,.aH 0 0 0 0),(30,.int .i64 a.aj),(57,.bool e)]/\η=[.row 0 5 1 26 (λ_=>a.lit)]) ?_ ?_;refine .d (sE h (λR h=>?_) (λR h=>?_));exact Ut;refine .d (sE h (λS h=>?_) (λS h=>?_));exact Ut;exact Ut;rintro _ _ ⟨e,rfl,rfl,rfl⟩;refine sV Q (λT h=>?_) (λT h=>?_);refine .d ⟨rfl,⟨rfl,_,rfl,(bk h λU V h=>(dS (wK V) ?_))⟩⟩;exact T8;refine .d (sE h (λW h=>?_) (λW h=>?_));refine .d (.d ⟨rfl,⟨rfl,_,rfl,(sN h (λX h=>?_) (λX h=>?_))⟩⟩);refine .t (.t (.t (.t (.t (.d ?_)))));exact T8;refine⟨rfl,(.f ⟨rfl,_,rfl,(.f (bk h λEZ Y h=>(dS (wK Y) (.f (.f (mR h (λZ h=>?_) (λZ h=>?_)))))))⟩)⟩;refine .d ?_;exact T8;obtain⟨g,My,wO⟩:=bd h;replace h:=My;refine .cut (λσ η=>.inl ()=g/\σ=[]/\η=[]) ?_ ?_;refine .d ?_;have Mz:=u _ _ _ h;refine le (wL (motive:=λj b k=>a=j->g=k->a7 _ _ [(1,.aH 0 0 0 0),(3,.int .i64 b)] [.row 0 5 1 26 (λ_=>a.lit)]) ?_ a 0 g Mz rfl rfl) (tk [0] ⟨.p,.i,⟨⟩⟩ ⟨(ed rfl),⟨⟩⟩);intro _ l _ _ j b k h m  Gw MA;subst Gw;subst MA;refine a7.round (.d (.d ⟨rfl,⟨rfl,_,rfl,(sD h (λA1 h=>?_) (λA1 h=>?_))⟩⟩));refine .d (.d ⟨rfl,⟨rfl,_,rfl,(bk h λc n h=>⟨bP n,_,(bx n).trans (af.aO c),⟨rfl,_,λ_=>[.bool c.ar.av,.int .i64 c.ar.ao,.str c.ar.aq],rfl,aB rfl,(.d ⟨rfl,_,rfl,(bk h λpW wP h=>(dS (Ms wP) (mR h (λA2 h=>?_) (λA2 h=>?_))))⟩)⟩⟩)⟩⟩);refine .t (.t (.t (.t (.t (.t (.t (.t (.t (.t (.t (.t (.t (.t (.t ?_))))))))))))));refine .t (.t (.t (.t (.t (.t (.d ?_))))));obtain rfl:=si h;exact Uo;refine⟨rfl,(.f ⟨rfl,_,rfl,(.f (.f (mR h (λGx h=>?_) (λGx h=>?_))))⟩)⟩;refine⟨rfl,(.t ⟨rfl,_,rfl,(.t ⟨rfl,(.t ⟨rfl,_,rfl,(.t (.f (.t (.f (sD h (λwQ h=>?_) (λwQ h=>?_))))))⟩)⟩)⟩)⟩;refine .t (.t (.t (.t (.t (.t (.t (.t (.t (.t (.t (.t (.t (.t (.t ?_))))))))))))));refine .d ?_;obtain rfl:=si h;exact Uo;refine⟨rfl,_,rfl,(.f ⟨rfl,_,rfl,(.f (bk h λaa A3 h=>(dS (A4 A3) (.f (.f (.f (sN h (λGy h=>?_) (λGy h=>?_))))))))⟩)⟩;refine .t (.t (.t (.t (.t (.t (.t (.t (.t (.d ?_)))))))));obtain rfl:=si h;exact Uo;refine⟨rfl,(.f ⟨rfl,_,rfl,(.f (.f (bk h λGn q h=>⟨bP q,_,(bx q).trans (af.aO Gn),(.f (.f (.f (bk h λIF MB h=>(dS (l _ _ MB) (.f (.f (mR h (λMC h=>?_) (λMC h=>?_)))))))))⟩)))⟩)⟩;refine .d ?_;obtain rfl:=si h;exact Uo;exact lg (m _ _ _ h rfl rfl) (tk [0] ⟨.p,.i,⟨⟩⟩ ⟨(ed rfl),⟨⟩⟩);refine .f (.f (.f (.f (.f (.f (.f (.f ⟨rfl,_,rfl,(.f ⟨rfl,_,rfl,(.f (bk h λID MD h=>(dS (A4 MD) (.f ?_))))⟩)⟩)))))));refine .f (.f (sN h (λME h=>?_) (λME h=>?_)));refine .t (.t (.t (.t (.t (.t (.t (.t (.t (.d ?_)))))))));obtain rfl:=si h;exact Uo;refine⟨rfl,(.f ⟨rfl,_,rfl,(.f (.f (bk h λGm s h=>⟨bP s,_,(bx s).trans (af.aO Gm),(.f (.f (.f (bk h λIE MF h=>(dS (l _ _ MF) (.f (.f (mR h (λMG h=>?_) (λMG h=>?_)))))))))⟩)))⟩)⟩;refine .d ?_;obtain rfl:=si h;exact Uo;exact lg (m _ _ _ h rfl rfl) (tk [0] ⟨.p,.i,⟨⟩⟩ ⟨(ed rfl),⟨⟩⟩);exact Uw;rintro _ _ ⟨rfl,rfl,rfl⟩;replace h:=wO;refine .d ?_;exact T8;exact Uw;rintro _ _ ⟨rfl,rfl,rfl⟩;exact .d (eB eh);intro F0 F1 wD wE a b o h;exact .mk F0 wD F1 wE a b o h
theorem MH {a:ai} {r:Bool} (h:EW a=some r):ACall Tryd.prog 22 [.agg a.lit] [] (λres h=>res=.bool r/\h=[]):=Gq.1 a r h
def m22 (a:ai):Option (Bool):=EV a 200>>=λb=>if b<=200 then EW a>>=λc=>some c else some false
theorem MI {a:ai} {r:Bool} (h:m22 a=some r):ACall Tryd.prog 8 [.agg a.lit] [] (λres h=>res=.bool r/\h=[]):=by
 refine gD Tryd.func8 ?_;unfold m22 at h;refine .d (.d ⟨rfl,_,rfl,(bk h λg b h=>(dS (Md b) (sD h (λc h=>?_) (λc h=>?_))))⟩);exact⟨rfl,_,rfl,(.t (bk h λi e h=>(dS (MH e) (.t (eB h)))))⟩;exact .f (.f (eB h))
mutual
def m19 (a:ai) (b:ai):Option (Bool):=if a.aj=b.aj then if a.ao=b.ao then if a.aq=b.aq then if a.ak=b.ak then if(a.ae.length:Int)=(b.ae.length:Int)then((mm a b 0:Option ((Unit) ⊕ Bool))>>=λc=>match c with | .inr r=>some r | .inl _=>some true)else some false else some false else some false else some false else some false partial_fixpoint
def mm (b:ai) (c:ai) (a:Int):Option ((Unit) ⊕ Bool):=if a<(b.ae.length:Int)then idx b.ae a>>=λd=>idx c.ae a>>=λe=>if d.ar=e.ar then idx b.ae a>>=λf=>idx c.ae a>>=λg=>m19 f.ah g.ah>>=λh=>if h then mm b c (bc (a+1))else some (.inr false)else some (.inr false)else some (.inl ()) partial_fixpoint
end
def Dw (a:ai) (b:ai) (r:Bool):Prop:=ACall Tryd.prog 7 [.agg a.lit,.agg b.lit] [] (λres h=>res=.bool r/\h=[])
inductive iI:ai->ai->Int->((Unit) ⊕ Bool)->Prop
 | mk (G7:ai->ai->Option (Bool)) (QL:∀a0 a1 r,G7 a0 a1=some r->Dw a0 a1 r) (jN:ai->ai->Int->Option ((Unit) ⊕ Bool)) (zj:∀a0 a1 y9 o,jN a0 a1 y9=some o->iI a0 a1 y9 o) (a0:ai) (a1:ai) (y9:Int) (o:(Unit) ⊕ Bool) (h:(
 (if y9<(a0.ae.length:Int)then
 idx a0.ae y9>>=λaC=>
 idx a1.ae y9>>=λE1=>
 (if aC.ar=E1.ar then
 idx a0.ae y9>>=λGz=>
 idx a1.ae y9>>=λeU=>
 G7 Gz.ah eU.ah>>=λbI=>
 (if bI=true then
 jN a0 a1 (bc (y9+1))
 else
 some (.inr false))
 else
 some (.inr false))
 else
 some (.inl ()))
 )=some o):iI a0 a1 y9 o
theorem wR {motive:ai->ai->Int->((Unit) ⊕ Bool)->Prop} (step:∀(e:ai->ai->Option (Bool)) (l:∀a b r,e a b=some r->Dw a b r) (d:ai->ai->Int->Option ((Unit) ⊕ Bool)) (m:∀a b c o,d a b c=some o->iI a b c o) (a:ai) (b:ai) (c:Int) (o:(Unit) ⊕ Bool) (h:(
 (if c<(a.ae.length:Int)then
 idx a.ae c>>=λf=>
 idx b.ae c>>=λg=>
 (if f.ar=g.ar then
 idx a.ae c>>=λi=>
 idx b.ae c>>=λj=>
 e i.ah j.ah>>=λk=>
 (if k=true then
 d a b (bc (c+1))
 else
 some (.inr false))
 else
 some (.inr false))
 else
 some (.inl ()))
 )=some o) (n:∀a b c o,d a b c=some o->motive a b c o),motive a b c o):∀a b c o,iI a b c o->motive a b c o:=
 λa b c o h=>iI.rec (motive:=λa b c o _=>motive a b c o) step h
theorem GA:(∀a b r,m19 a b=some r->Dw a b r)/\(∀a b c o,mm a b c=some o->iI a b c o):=by
 refine m19.mutual_partial_correctness Dw iI ?_ ?_;intro _ w a b r h;refine gD Tryd.func7 ?_;refine .d (.d (.d ⟨rfl,⟨rfl,_,rfl,⟨rfl,⟨rfl,_,rfl,(sN h (λx h=>?_) (λx h=>?_))⟩⟩⟩⟩));refine .t (.t (.t (.t (.t (.t (.t (.t (.t (.t (.t (.t (.t (.t (.t ?_))))))))))))));exact .t (.t (.t (.t (.t (.t (.t (.t (.t (.t (.t (.d (eB h))))))))))));refine⟨rfl,(.f ⟨rfl,_,rfl,(.f ⟨rfl,(.f ⟨rfl,_,rfl,(.f (.f (sN h (λy h=>?_) (λy h=>?_))))⟩)⟩)⟩)⟩;refine .t (.t (.t (.t (.t (.t (.t (.t (.t (.t (.t (.t (.t (.t (.t ?_))))))))))))));exact .t (.t (.t (.t (.t (.d (eB h))))));refine⟨rfl,(.f ⟨rfl,_,rfl,(.f ⟨rfl,(.f ⟨rfl,_,rfl,(.f (.f (LF h (λz h=>?_) (λz h=>?_))))⟩)⟩)⟩)⟩;refine .t (.t (.t (.t (.t (.t (.t (.t (.t (.t (.t (.t (.t (.t (.d ?_))))))))))))));exact eB h;refine⟨rfl,(.f ⟨rfl,_,rfl,(.f ⟨rfl,(.f ⟨rfl,_,rfl,(.f (.f (sN h (λA h=>?_) (λA h=>?_))))⟩)⟩)⟩)⟩;exact .t (.t (.t (.t (.t (.t (.t (.t (.d (eB h)))))))));refine⟨rfl,(.f ⟨rfl,_,rfl,(.f (.f ⟨rfl,(.f ⟨rfl,_,rfl,(.f (.f (.f (sN h (λB h=>?_) (λB h=>?_)))))⟩)⟩))⟩)⟩;exact .d (eB h);obtain⟨e,C,g⟩:=bd h;replace h:=C;refine .cut (λσ η=>.inl ()=e/\σ=[]/\η=[]) ?_ ?_;refine .d ?_;have D:=w _ _ _ _ h;refine le (wR (motive:=λj k c l=>a=j->b=k->e=l->a7 _ _ [(2,.aH 0 0 0 0),(3,.aH 1 0 0 0),(5,.int .i64 c)] [.row 0 5 1 26 (λ_=>a.lit),.row 0 5 1 26 (λ_=>b.lit)]) ?_ a b 0 e D rfl rfl rfl) (tk [0,1] ⟨.p,.p,.i,⟨⟩⟩ ⟨(ed rfl),(ed rfl),⟨⟩⟩);intro _ E _ _ j k c l h F  G H I;subst G;subst H;subst I;refine a7.round (.d (.d ⟨rfl,⟨rfl,_,rfl,(sD h (λJ h=>?_) (λJ h=>?_))⟩⟩));refine .d (.d (.float [(0,true),(1,true),(2,true),(3,true),(4,true),(5,true),(6,true),(7,true),(8,true),(9,true),(10,true),(11,true),(12,true),(13,true),(14,true),(15,true),(16,true),(17,true),(18,true),(19,true),(20,true),(21,true),(22,true),(23,true),(24,true),(25,true),(26,false),(27,true),(28,true)] UR ?_));refine⟨rfl,⟨rfl,_,rfl,(bk h λm n h=>⟨bP n,_,(bx n).trans (af.aO m),⟨rfl,⟨rfl,_,rfl,(bk h λq s h=>⟨bP s,_,(bx s).trans (af.aO q),⟨_,az.jO m.ar q.ar,(QM h (λK h=>?_) (λK h=>?_))⟩⟩)⟩⟩⟩)⟩⟩;refine .t (.t (.t (.t (.t (.t (.t (.t (.t (.t (.t (.t (.t (.t (.t ?_))))))))))))));refine .d ?_;obtain rfl:=si h;exact eB g;refine⟨rfl,(.f ⟨rfl,_,rfl,(.f (.f (bk h λL u h=>⟨bP u,_,(bx u).trans (af.aO L),(.f (.f (.f ⟨rfl,(.f ⟨rfl,_,rfl,(.f (.f ?_))⟩)⟩)))⟩)))⟩)⟩;refine bk h λM v h=>⟨bP v,_,(bx v).trans (af.aO M),(.f (.f (.f (bk h λT N h=>(dS (E _ _ _ N) (.f (.f (mR h (λO h=>?_) (λO h=>?_)))))))))⟩;refine .d ?_;obtain rfl:=si h;exact eB g;exact lg (F _ _ _ _ h rfl rfl rfl) (tk [0,1] ⟨.p,.p,.i,⟨⟩⟩ ⟨(ed rfl),(ed rfl),⟨⟩⟩);exact Uw;rintro _ _ ⟨rfl,rfl,rfl⟩;exact .d (eB g);intro P Q R S a b c o h;exact .mk P R Q S a b c o h
theorem Jm {a:ai} {b:ai} {r:Bool} (h:m19 a b=some r):ACall Tryd.prog 7 [.agg a.lit,.agg b.lit] [] (λres h=>res=.bool r/\h=[]):=GA.1 a b r h
theorem ACall.ext {P:Program} {f:FuncId} {args:List PV} {r:PV} (d:Jn P f)
  (H:∀(w:World) (vs:Array Value) (S:Nat->Prop),zk S w->(∀b,S b->b<w.heap.size)->vs.size=args.length->(∀(j:Nat) (pv:PV),args[j]? =some pv->∃v,vs[j]? =some v/\aI S w pv v)->
   Calls P f vs w (λe w'=>∃v,e=.returned v/\(∀μ h S w,aX μ h S w r v)/\Below w.heap.size w w'))
  (hp:args.all mW=true) (h:List au):ACall P f args h (λres h'=>res=r/\h'=h):=by
 refine⟨d,λw vs μ S g a dp ha=>(H w vs S a.known a.slt dp (λj pv hj=>?_)).mono ?_⟩
 ·obtain⟨v,h1,h2⟩:=ha j pv hj;have i:=Sy.1 hp pv (SJ hj);cases pv<;>first | exact⟨v,h1,h2⟩ | (simp [mW]at i)
 ·rintro e w' ⟨v,rfl,hv,hb⟩;have c:bg w w':=⟨hb.block,hb.size,hb.os,hb.tape,hb.output⟩;exact⟨v,r,h,μ,S,rfl,⟨rfl,rfl⟩,hv _ _ _ _,g.agree c a,a.agree c,Fr.mX c⟩
theorem Jo {vs:Array Value} {a b c:Value} (hs:vs.size=3) (h0:vs[0]? =some a) (h1:vs[1]? =some b) (h2:vs[2]? =some c):vs=#[a,b,c]:=by
 obtain⟨l⟩:=vs;rcases l with _ | ⟨x,_ | ⟨y,_ | ⟨z,_ | ⟨u,l⟩⟩⟩⟩<;>simp at hs;simp at h0 h1 h2;subst h0;subst h1;subst h2;rfl
theorem wS {P:Program} {w:World} {n:String} {g:Nat} {cs:Array Value} {t:TypeId} {z:Nat×Nat} (hg:P.globalNamed n=some g) (h:w.heap[g]? =some (.cells cs t z)):w.var? P n=some cs:=by
 unfold World.var?;rw[hg];simp [h]
theorem GD:Tryd.prog.globalNamed "internal/strconv.uint64pow10" =some 2:=by kernel_rfl
theorem GF:Tryd.prog.globalNamed "strconv.ErrSyntax" =some 0:=by kernel_rfl
theorem GG:Tryd.prog.globalNamed "strconv.ErrRange" =some 1:=by kernel_rfl
theorem A6:Lib.pow10Tab=uO:=by decide
theorem Dx {S:Nat->Prop} {w:World} (h:zk S w):Lib.TabIs Tryd.prog w "internal/strconv.uint64pow10" .u64 Lib.pow10Tab:=by
 obtain⟨_,t,z,hh⟩:=h.1 (2,_) (by simp [tw];rfl);unfold Lib.TabIs;rw[wS GD hh,A6]
theorem Dy {S:Nat->Prop} {w:World} (h:zk S w):∃b p,w.var? Tryd.prog "strconv.ErrSyntax" =some #[.iface b p]:=by
 obtain⟨_,b,p,t,z,hh⟩:=h.2.1 0 (by simp [mY]);exact⟨b,p,wS GF hh⟩
theorem Dz {S:Nat->Prop} {w:World} (h:zk S w):∃b p,w.var? Tryd.prog "strconv.ErrRange" =some #[.iface b p]:=by
 obtain⟨_,b,p,t,z,hh⟩:=h.2.1 1 (by simp [mY]);exact⟨b,p,wS GG hh⟩
theorem wT (w:World) (k:Nat) (os:Array Obj):Below w.heap.size w (Sort.grow (w.drewN k) os):=by
 refine⟨rfl,rfl,rfl,?_,λi hi=>?_⟩
 ·show w.heap.size<=(w.heap++os).size;simp
 ·show(w.heap++os)[i]? =w.heap[i]?;rw[S9 hi]
def pw (s:List UInt8) (lo hi:Int):Option Int:=
 if 20<s.length then none else match Lib.atoiAll s with
  | .ok n=>if Lib.itoa n=s/\lo<=n/\n<=hi then some n else none
  | _=>none
def PN (o:Option Int):PV:=match o with | some n=>.db [.int .i64 n,.bool true] | none=>.db [.int .i64 0,.bool false]
def PO (o:Option Int):Value:=match o with | some n=>.tuple #[.int .i64 n,.bool true] | none=>.tuple #[.int .i64 0,.bool false]
set_option maxRecDepth 100000 in
theorem mZ (s:ByteArray) (lo hi:Int) (w:World) (S:Nat->Prop) (ha:zk S w) (i:∀b,S b->b<w.heap.size):
  Calls Tryd.prog 53 #[.string s,.int .i64 lo,.int .i64 hi] w λe w'=>e=.returned (PO (pw s.data.toList lo hi))/\Below w.heap.size w w':=by
 have hlen:s.data.toList.length=s.size:=rfl;by_cases o:20<s.size
 ·have a:pw s.data.toList lo hi=none:=by unfold pw;rw[An UN]
  rw[a]
  go_enter Tryd.func53,Tryd.ntmps53
  go_wp2
  go_ret2
  exact⟨rfl,Below.refl _ _⟩
 ·cases h:Lib.atoiAll s.data.toList with
  | range=>
   have a:pw s.data.toList lo hi=none:=by unfold pw;rw[Is UN,h]
   rw[a];obtain⟨c,p,hv⟩:=Dz ha
   go_enter Tryd.func53,Tryd.ntmps53
   go_wp2_with (go_at_call 55;refine(Tryd.strconv_Atoi_range_var s UN h c p _ hv).mono ?_;rintro e w1 ⟨N,rfl,-,-,hb⟩)
   go_ret2
   exact⟨rfl,hb⟩
  | ok n=>
   obtain⟨j,l⟩:=Lib.atoiAll_bounds h
   have key:∀(r:Value) (w1 d:World),((w1=w\/∃t,w1=Lib.bytesWorld w 5 t)->Below w.heap.size w w1):=λr w1 d hb=>by
    rcases hb with rfl | ⟨t,rfl⟩
    ·exact Below.refl _ _
    ·exact Lib.bytesWorld_below _ _ _
   go_enter Tryd.func53,Tryd.ntmps53
   go_wp2_with (go_at_call 55;refine(Tryd.strconv_Atoi_ok s UN n h _).mono ?_;rintro e w1 ⟨rfl,hb⟩)
   go_wp2_with (go_at_call 56;refine(Tryd.strconv_Itoa n j l _ (Dx (ha.fG (λb m=>(key undef _ w hb).block b (i b m)) (λ_ hb=>hb)))).mono ?_;rintro e d ⟨rfl,k,os,rfl⟩)
   all_goals go_ret2
   all_goals refine⟨?_,(key undef _ w hb).trans ((wT _ _ _).mono (key undef _ w hb).size)⟩
   all_goals
    have f:s.toList=s.data.toList:=ByteArray.toList_eq s
    have g:pw s.data.toList lo hi=if Lib.itoa n=s.data.toList/\lo<=n/\n<=hi then some n else none:=by
     unfold pw;rw[Is UN,h]
    rw[g,<-f];clear f g h;split
    ·rename_i hc
     first
      | rfl
      | (exfalso;obtain⟨q,u,v⟩:=hc;first | omega | contradiction)
    ·rename_i hc
     first
      | rfl
      | (exfalso;apply hc;refine⟨?_,?_,?_⟩<;>first | assumption | omega)
  | _=>
   have a:pw s.data.toList lo hi=none:=by unfold pw;rw[Is UN,h]
   rw[a];obtain⟨c,p,hv⟩:=Dy ha
   go_enter Tryd.func53,Tryd.ntmps53
   go_wp2_with (go_at_call 55;refine(Tryd.strconv_Atoi_syntax_var s UN h c p _ hv).mono ?_;rintro e w1 ⟨N,rfl,-,-,hb⟩)
   go_ret2
   exact⟨rfl,hb⟩
theorem qf (s:List UInt8) (lo hi:Int) (h:List au):ACall Tryd.prog 53 [.str s,.int .i64 lo,.int .i64 hi] h (λres h'=>res=PN (pw s lo hi)/\h'=h):=by
 refine ACall.ext ⟨_,_,Tryd.func53,rfl,by kernel_rfl⟩ (λw vs S ha a dp hj=>?_) rfl h;obtain⟨k,b,c⟩:=hj 0 _ rfl;cases c;obtain⟨l,d,f⟩:=hj 1 _ rfl;cases f;obtain⟨m,g,i⟩:=hj 2 _ rfl;cases i;obtain rfl:=Jo dp b d g;refine(mZ ⟨⟨s⟩⟩ lo hi w S ha a).mono ?_;rintro e w' ⟨rfl,hb⟩;refine⟨_,rfl,λμ h S w=>?_,hb⟩;show aX μ h S w (PN (pw s lo hi)) (PO (pw s lo hi));cases pw s lo hi with
 | some n=>
  refine⟨_,rfl,rfl,λj pv hj=>?_⟩
  match j with
  | 0=>cases hj;exact⟨_,rfl,.int _ _⟩
  | 1=>cases hj;exact⟨_,rfl,.bool _⟩
  | j+2=>simp at hj
 | none=>
  refine⟨_,rfl,rfl,λj pv hj=>?_⟩
  match j with
  | 0=>cases hj;exact⟨_,rfl,.int _ _⟩
  | 1=>cases hj;exact⟨_,rfl,.bool _⟩
  | j+2=>simp at hj
def Jp (s:cR) (lo hi:Int):Option (Int×Bool):=match pw s lo hi with | some n=>some (n,true) | none=>some (0,false)
theorem MO {s:cR} {lo hi:Int} {r:Int×Bool} (h:Jp s lo hi=some r):ACall Tryd.prog 53 [.str s,.int .i64 lo,.int .i64 hi] [] (λres h=>res=.db [.int .i64 r.1,.bool r.2]/\h=[]):=by
 refine(qf s lo hi []).mono ?_;rintro _ _ ⟨rfl,rfl⟩;unfold Jp at h;split at h
 ·rename_i n e;rw[e];cases h;exact⟨rfl,rfl⟩
 ·rename_i e;rw[e];cases h;exact⟨rfl,rfl⟩
def LG (a:cR):Option (Int×Bool):=Jp a (-1000000000) 1000000000>>=λ(b,c)=>some (b,c)
theorem MP {a:cR} {r:Int×Bool} (h:LG a=some r):ACall Tryd.prog 46 [.str a] [] (λres h=>res=.db [.int .i64 r.1,.bool r.2]/\h=[]):=by
 refine gD Tryd.func46 ?_;unfold LG at h;refine .d (.d ?_);obtain⟨⟨c,e⟩,b,h⟩:=bd h;refine dS (MO b) ?_;exact Uc
def E2 (a:az):Option (Bool):=if a.av=true then LG a.aq>>=λ(d,b)=>if a.ao=0 then if(a.aq.length:Int)<=400 then some (!b)else some false else some false else if a.aq=([]:cR)then DC a.ao (-1000000000) 1000000000>>=λc=>some c else some false
theorem Jq {a:az} {r:Bool} (h:E2 a=some r):ACall Tryd.prog 34 [.agg a.lit] [] (λres h=>res=.bool r/\h=[]):=by
 refine gD Tryd.func34 ?_;unfold E2 at h;refine .d (.d (.d ⟨rfl,⟨rfl,_,rfl,(mR h (λb h=>?_) (λb h=>?_))⟩⟩));refine .d ⟨rfl,⟨rfl,_,rfl,(sE h (λc h=>?_) (λc h=>?_))⟩⟩;exact⟨rfl,(.t ⟨rfl,_,rfl,(.t (bk h λk e h=>(dS (DD e) (.t (eB h)))))⟩)⟩;exact .f (.f (.f (eB h)));refine .d ⟨rfl,⟨rfl,_,rfl,?_⟩⟩;obtain⟨⟨l,m⟩,g,h⟩:=bd h;refine dS (MP g) (.d ⟨rfl,⟨rfl,_,rfl,(sE h (λi h=>?_) (λi h=>?_))⟩⟩);refine⟨rfl,(.t ⟨rfl,_,rfl,(.t (.t (.t (sD h (λj h=>?_) (λj h=>?_)))))⟩)⟩;exact .t (.t (eB h));exact .f (.f (eB h));exact .f (.f (.f (.f (.f (.f (.f (eB h)))))))
def Dd (e:aF):Option (ai×aF):=pf e 8>>=λ(a,b)=>if a=0 then some ((ai.mk 0 0 [] 0 []),b)else if a=1 then om b 2>>=λ(f,g)=>wU f>>=λh=>some (h,g)else((if a=2 then some (a==2)else some (a==3)):Option (Bool))>>=λi=>if i then zm b>>=λ(j,k)=>some ((ai.mk 3 0 j 0 []),k)else if a=4 then DF b ([0,1,(-1),5,10,999999999,1000000000,(-1000000000)]:List Int)>>=λ(c,l)=>some ((ai.mk 2 c [] 0 []),l)else pf b 20>>=λ(d,m)=>some ((ai.mk 2 (bc (d - 5)) [] 0 []),m)
theorem GI {g:aF} {r:ai×aF} {aw:Nat} (h:Dd g=some r):ACall Tryd.prog 43 [.aH 0 aw 0 0] [.row aw 3 1 57 (λ_=>g.lit)] (λres h=>res=.agg r.1.lit/\h=[.row aw 3 1 57 (λ_=>r.2.lit)]):=by
 refine gD Tryd.func43 ?_;unfold Dd at h;refine .d (.d (.d ?_));obtain⟨⟨i,j⟩,k,h⟩:=bd h;refine gl (nd (aw:=aw) k) [0] ⟨rfl,⟨⟩⟩ (.int .i64 i) [.row aw 3 1 57 (λ_=>j.lit),.row 0 5 1 26 (λ_=>[.int .i64 0,.int .i64 0,.str [],.int .i64 0,.aD])] (.d (sE h (λl h=>?_) (λl h=>?_)));refine .d ⟨rfl,_,λ_=>[.int .i64 0,.int .i64 0,.str [],.int .i64 0,.aD],rfl,aB rfl,?_⟩;exact Ue;refine .d (sE h (λm h=>?_) (λm h=>?_));refine .d ?_;obtain⟨⟨n,o⟩,p,h⟩:=bd h;refine gl (pI (aw:=aw) p) [0] ⟨rfl,⟨⟩⟩ (.bool n) [.row aw 3 1 57 (λ_=>o.lit),.row 0 5 1 26 (λ_=>[.int .i64 0,.int .i64 0,.str [],.int .i64 0,.aD])] (bk h λc q h=>(dS (Js q) ⟨rfl,_,λ_=>[.int .i64 c.aj,.int .i64 c.ao,.str c.aq,.int .i64 c.ak,sl 8 af.cells c.ae],rfl,aB rfl,?_⟩));exact Uf;obtain⟨s,t,eh⟩:=bd h;replace h:=t;refine .cut (λσ η=>∃e,e=s/\σ=[(0,.aH 0 aw 0 0),(2,.aH 1 0 0 0),(4,.int .i64 i),(13,.bool e)]/\η=[.row aw 3 1 57 (λ_=>j.lit),.row 0 5 1 26 (λ_=>[.int .i64 0,.int .i64 0,.str [],.int .i64 0,.aD])]) ?_ ?_;refine .d (sE h (λu h=>?_) (λu h=>?_));exact Us;exact Us;rintro _ _ ⟨e,rfl,rfl,rfl⟩;refine sV eh (λv h=>?_) (λv h=>?_);refine .d ?_;obtain⟨⟨f,w⟩,x,h⟩:=bd h;refine gl (E3 (aw:=aw) x) [0] ⟨rfl,⟨⟩⟩ (.str f) [.row aw 3 1 57 (λ_=>w.lit),.row 0 5 1 26 (λ_=>[.int .i64 0,.int .i64 0,.str [],.int .i64 0,.aD])] (dS (kC f) ⟨rfl,_,λ_=>[.int .i64 3,.int .i64 0,.str f,.int .i64 0,.aD],rfl,aB rfl,?_⟩);exact Ue;refine .d (sE h (λy h=>?_) (λy h=>?_));refine .d ⟨row cI ([0,1,(-1),5,10,999999999,1000000000,(-1000000000)]:List Int),cA cI ([0,1,(-1),5,10,999999999,1000000000,(-1000000000)]:List Int) rfl (cU rfl),?_⟩;obtain⟨⟨a,z⟩,A,h⟩:=bd h;refine gl (A9 (aw:=aw) (aY:=0) A) [0,2] ⟨rfl,ov,⟨⟩⟩ (.int .i64 a) [.row aw 3 1 57 (λ_=>z.lit),.row 0 5 1 26 (λ_=>[.int .i64 0,.int .i64 0,.str [],.int .i64 0,.aD]),.row 0 1 ([0,1,(-1),5,10,999999999,1000000000,(-1000000000)]:List Int).length 3 (row cI ([0,1,(-1),5,10,999999999,1000000000,(-1000000000)]:List Int))] (dS (gm a) ⟨rfl,_,λ_=>[.int .i64 2,.int .i64 a,.str [],.int .i64 0,.aD],rfl,aB rfl,?_⟩);exact Ue;refine .d ?_;obtain⟨⟨b,B⟩,C,h⟩:=bd h;refine gl (nd (aw:=aw) C) [0] ⟨rfl,⟨⟩⟩ (.int .i64 b) [.row aw 3 1 57 (λ_=>B.lit),.row 0 5 1 26 (λ_=>[.int .i64 0,.int .i64 0,.str [],.int .i64 0,.aD])] (dS (gm (bc (b - 5))) ⟨rfl,_,λ_=>[.int .i64 2,.int .i64 (bc (b - 5)),.str [],.int .i64 0,.aD],rfl,aB rfl,?_⟩);exact Ue
theorem Jt {a:Bool} {r:ai} (h:wU a=some r):ACall Tryd.prog 49 [.bool a] [] (λres h=>res=.agg [.int .i64 r.aj,.int .i64 r.ao,.str r.aq,.int .i64 r.ak,.own 0 0 0 r.ae.length]/\h=[.row 0 8 r.ae.length 51 (row af.cells r.ae)]):=by
 refine gD Tryd.func49 ?_;unfold wU at h;refine .d (.d (.d (sV h (λb h=>?_) (λb h=>?_))));refine .d ⟨rfl,_,λ_=>[.int .i64 1,.int .i64 1,.str [],.int .i64 0,.aD],rfl,aB rfl,?_⟩;obtain rfl:=si h;exact⟨rfl,_,rfl,(en [1] ⟨rfl,rfl⟩ (.aM ⟨.i,.i,.s,.i,.g,⟨⟩⟩) ⟨gh,⟨⟩⟩)⟩;refine .d ⟨rfl,_,λ_=>[.int .i64 1,.int .i64 0,.str [],.int .i64 0,.aD],rfl,aB rfl,?_⟩;obtain rfl:=si h;exact⟨rfl,_,rfl,(en [1] ⟨rfl,rfl⟩ (.aM ⟨.i,.i,.s,.i,.g,⟨⟩⟩) ⟨gh,⟨⟩⟩)⟩
theorem Ju {j:aF} {r:ai×aF} {aw:Nat} (h:Dd j=some r):ACall Tryd.prog 43 [.aH 0 aw 0 0] [.row aw 3 1 57 (λ_=>j.lit)] (λres h=>res=.agg [.int .i64 r.1.aj,.int .i64 r.1.ao,.str r.1.aq,.int .i64 r.1.ak,.own 1 0 0 r.1.ae.length]/\h=[.row aw 3 1 57 (λ_=>r.2.lit),.row 0 8 r.1.ae.length 51 (row af.cells r.1.ae)]):=by
 refine gD Tryd.func43 ?_;unfold Dd at h;refine .d (.d (.d ?_));obtain⟨⟨k,m⟩,o,h⟩:=bd h;refine gl (nd (aw:=aw) o) [0] ⟨rfl,⟨⟩⟩ (.int .i64 k) [.row aw 3 1 57 (λ_=>m.lit),.row 0 5 1 26 (λ_=>[.int .i64 0,.int .i64 0,.str [],.int .i64 0,.aD])] (.d (sE h (λp h=>?_) (λp h=>?_)));refine .d ⟨rfl,_,λ_=>[.int .i64 0,.int .i64 0,.str [],.int .i64 0,.aD],rfl,aB rfl,?_⟩;exact Uh;refine .d (sE h (λq h=>?_) (λq h=>?_));refine .d ?_;obtain⟨⟨t,n⟩,u,h⟩:=bd h;refine gl (pI (aw:=aw) u) [0] ⟨rfl,⟨⟩⟩ (.bool t) [.row aw 3 1 57 (λ_=>n.lit),.row 0 5 1 26 (λ_=>[.int .i64 0,.int .i64 0,.str [],.int .i64 0,.aD])] (bk h λa v h=>(PQ (Jt v) (.agg [.int .i64 a.aj,.int .i64 a.ao,.str a.aq,.int .i64 a.ak,.own 2 0 0 a.ae.length]) [.row aw 3 1 57 (λ_=>n.lit),.row 0 5 1 26 (λ_=>[.int .i64 0,.int .i64 0,.str [],.int .i64 0,.aD]),.row 0 8 a.ae.length 51 (row af.cells a.ae)] ⟨rfl,_,λ_=>[.int .i64 a.aj,.int .i64 a.ao,.str a.aq,.int .i64 a.ak,.own 2 0 0 a.ae.length],rfl,aB rfl,?_⟩));exact Ui;obtain⟨w,x,eh⟩:=bd h;replace h:=x;refine .cut (λσ η=>∃e,e=w/\σ=[(0,.aH 0 aw 0 0),(2,.aH 1 0 0 0),(4,.int .i64 k),(13,.bool e)]/\η=[.row aw 3 1 57 (λ_=>m.lit),.row 0 5 1 26 (λ_=>[.int .i64 0,.int .i64 0,.str [],.int .i64 0,.aD])]) ?_ ?_;refine .d (sE h (λy h=>?_) (λy h=>?_));exact Us;exact Us;rintro _ _ ⟨e,rfl,rfl,rfl⟩;refine sV eh (λz h=>?_) (λz h=>?_);refine .d ?_;obtain⟨⟨f,A⟩,B,h⟩:=bd h;refine gl (E3 (aw:=aw) B) [0] ⟨rfl,⟨⟩⟩ (.str f) [.row aw 3 1 57 (λ_=>A.lit),.row 0 5 1 26 (λ_=>[.int .i64 0,.int .i64 0,.str [],.int .i64 0,.aD])] (dS (kC f) ⟨rfl,_,λ_=>[.int .i64 3,.int .i64 0,.str f,.int .i64 0,.aD],rfl,aB rfl,?_⟩);exact Uh;refine .d (sE h (λC h=>?_) (λC h=>?_));refine .d ⟨row cI ([0,1,(-1),5,10,999999999,1000000000,(-1000000000)]:List Int),cA cI ([0,1,(-1),5,10,999999999,1000000000,(-1000000000)]:List Int) rfl (cU rfl),?_⟩;obtain⟨⟨b,D⟩,E,h⟩:=bd h;refine gl (A9 (aw:=aw) (aY:=0) E) [0,2] ⟨rfl,ov,⟨⟩⟩ (.int .i64 b) [.row aw 3 1 57 (λ_=>D.lit),.row 0 5 1 26 (λ_=>[.int .i64 0,.int .i64 0,.str [],.int .i64 0,.aD]),.row 0 1 ([0,1,(-1),5,10,999999999,1000000000,(-1000000000)]:List Int).length 3 (row cI ([0,1,(-1),5,10,999999999,1000000000,(-1000000000)]:List Int))] (dS (gm b) ⟨rfl,_,λ_=>[.int .i64 2,.int .i64 b,.str [],.int .i64 0,.aD],rfl,aB rfl,?_⟩);obtain rfl:=si h;exact⟨rfl,_,rfl,(en [0,4] ⟨rfl,rfl⟩ (.aM ⟨.i,.i,.s,.i,.g,⟨⟩⟩) ⟨(ob rfl ⟨.l,.i,.i,⟨⟩⟩),gh,⟨⟩⟩)⟩;refine .d ?_;obtain⟨⟨c,F⟩,G,h⟩:=bd h;refine gl (nd (aw:=aw) G) [0] ⟨rfl,⟨⟩⟩ (.int .i64 c) [.row aw 3 1 57 (λ_=>F.lit),.row 0 5 1 26 (λ_=>[.int .i64 0,.int .i64 0,.str [],.int .i64 0,.aD])] (dS (gm (bc (c - 5))) ⟨rfl,_,λ_=>[.int .i64 2,.int .i64 (bc (c - 5)),.str [],.int .i64 0,.aD],rfl,aB rfl,?_⟩);exact Uh
def GM (a:ai) (b:az) (f:ai):Option (ai):=(eg 96 ([]:List af) a.ae>>=λh=>some h:Option ((List af)))>>=λc=>uC a b>>=λd=>(((if d>=0 then idx c d>>=λi=>some (.inr (ai.mk a.aj a.ao a.aq a.ak (c.set d.toNat (af.mk i.ar f))))else some (.inl ())):Option ((Unit) ⊕ ai))>>=λj=>match j with | .inr r=>some r | .inl _=>eg 96 c ([(af.mk b f)]:List af)>>=λg=>(some ():Option (Unit))>>=λ_=>if b.av=true then some (ai.mk a.aj a.ao a.aq a.ak g)else DG a.ak (bc (b.ao+1))>>=λe=>some (ai.mk a.aj a.ao a.aq e g))
theorem Jv {a:ai} {e:az} {f:ai} {r:ai} (h:GM a e f=some r):ACall Tryd.prog 15 [.agg a.lit,.agg e.lit,.agg f.lit] [] (λres h=>res=.agg r.lit/\h=[]):=by
 refine gD Tryd.func15 ?_;unfold GM at h;refine .d (.d ⟨rfl,_,rfl,⟨rfl,_,λ_=>[.int .i64 a.aj,.int .i64 a.ao,.str a.aq,.int .i64 a.ak,sl 8 af.cells a.ae],rfl,aB rfl,?_⟩⟩);obtain⟨v,w,x⟩:=bd h;replace h:=w;refine .cut (λσ η=>∃c,c=v/\σ=[(3,.aH 0 0 0 0),(4,.aH 1 0 0 0),(5,.aH 2 0 0 0),(6,.aH 3 0 0 0),(7,.aH 4 0 0 0)]/\η=[.row 0 5 1 26 (λ_=>a.lit),.row 0 3 1 37 (λ_=>e.lit),.row 0 5 1 26 (λ_=>f.lit),.row 0 5 1 26 (λ_=>[.int .i64 0,.int .i64 0,.str [],.int .i64 0,.aD]),.row 0 5 1 26 (λ_=>[.int .i64 a.aj,.int .i64 a.ao,.str a.aq,.int .i64 a.ak,.own 5 0 0 c.length]),.row 0 8 c.length 51 (row af.cells c)]) ?_ ?_;exact⟨row af.cells ([]:List af),cA af.cells ([]:List af) rfl (cU rfl),⟨rfl,⟨rfl,_,rfl,(bk h λk m h=>(.fG ⟨rfl,dV m,k.length,row af.cells k,dw m,dE m aS pX,⟨rfl,⟨rfl,_,λ_=>[.int .i64 a.aj,.int .i64 a.ao,.str a.aq,.int .i64 a.ak,.own 5 (0+1) 0 k.length],rfl,aB rfl,(ct ⟨_,si h,rfl,rfl⟩ (tk [0,1,2,3,4,5] ⟨.p,.p,.p,.p,.p,⟨⟩⟩ ⟨(ed rfl),(ed rfl),(ed rfl),(nb rfl ⟨.i,.i,.s,.i,.aD,⟨⟩⟩),(nb rfl ⟨.i,.i,.s,.i,.o,⟨⟩⟩),nw,⟨⟩⟩))⟩⟩⟩))⟩⟩⟩;rintro _ _ ⟨c,rfl,rfl,rfl⟩;refine .d ⟨rfl,_,rfl,⟨rfl,_,rfl,(bk x λy z h=>(dS (A4 z) ?_))⟩⟩;obtain⟨A,B,u⟩:=bd h;replace h:=B;refine .cut (λσ η=>.inl ()=A/\σ=[(4,.aH 0 0 0 0),(5,.aH 1 0 0 0),(6,.aH 2 0 0 0),(7,.aH 3 0 0 0)]/\η=[.row 0 3 1 37 (λ_=>e.lit),.row 0 5 1 26 (λ_=>f.lit),.row 0 5 1 26 (λ_=>[.int .i64 0,.int .i64 0,.str [],.int .i64 0,.aD]),.row 0 5 1 26 (λ_=>[.int .i64 a.aj,.int .i64 a.ao,.str a.aq,.int .i64 a.ak,.own 4 0 0 c.length]),.row 0 8 c.length 51 (row af.cells c)]) ?_ ?_;refine .d (sD h (λC h=>?_) (λC h=>?_));refine .d ⟨rfl,⟨rfl,_,rfl,⟨rfl,_,rfl,(bk h λn q h=>⟨rfl,bP q,_,Sx _,⟨rfl,⟨rfl,_,row af.cells (c.set y.toNat (af.mk n.ar f)),((bx q).trans (af.aO n)),DH (bJ q) (af.aO (af.mk n.ar f)) ⟨.same _,.same _,.same _,.same _,.same _,.same _,.same _,.same _,trivial⟩,(.d ⟨rfl,_,rfl,⟨rfl,_,λ_=>[.int .i64 a.aj,.int .i64 a.ao,.str a.aq,.int .i64 a.ak,.own 5 0 0 c.length],rfl,aB rfl,?_⟩⟩)⟩⟩⟩)⟩⟩⟩;obtain rfl:=si h;obtain rfl:=si u;exact⟨rfl,_,rfl,(en [] ⟨rfl,rfl⟩ (.aM ⟨.i,.i,.s,.i,(.rx ln),⟨⟩⟩) ⟨⟩)⟩;exact ct ⟨si h,rfl,rfl⟩ (tk [1,2,3,4,5] ⟨.p,.p,.p,.p,⟨⟩⟩ ⟨(ed rfl),(ed rfl),(nb rfl ⟨.i,.i,.s,.i,.aD,⟨⟩⟩),(nb rfl ⟨.i,.i,.s,.i,.o,⟨⟩⟩),nw,⟨⟩⟩);rintro _ _ ⟨rfl,rfl,rfl⟩;refine .d ⟨rfl,⟨rfl,_,rfl,⟨rfl,_,rfl,⟨rfl,_,rfl,⟨row af.cells ([(af.mk e f)]:List af),cA af.cells ([(af.mk e f)]:List af) rfl (iE (af.aO _) ⟨.same _,.same _,.same _,.same _,.same _,.same _,.same _,.same _,trivial⟩ trivial),(bk u λg t h=>(.fG ⟨rfl,rfl,kb (l:=([(af.mk e f)]:List af)) aS,dV t,g.length,row af.cells g,dw t,dE t aS (ik aS),⟨rfl,⟨rfl,_,λ_=>[.int .i64 a.aj,.int .i64 a.ao,.str a.aq,.int .i64 a.ak,.own 4 (0+1) 0 g.length],rfl,aB rfl,(.d ?_)⟩⟩⟩))⟩⟩⟩⟩⟩;obtain⟨D,E,F⟩:=bd h;replace h:=E;refine .cut (λσ η=>()=D/\σ=[(4,.aH 0 0 0 0),(6,.aH 1 0 0 0),(7,.aH 2 0 0 0),(37,.bool (!e.av))]/\η=[.row 0 3 1 37 (λ_=>e.lit),.row 0 5 1 26 (λ_=>[.int .i64 0,.int .i64 0,.str [],.int .i64 0,.aD]),.row 0 5 1 26 (λ_=>[.int .i64 a.aj,.int .i64 a.ao,.str a.aq,.int .i64 a.ak,.own 3 0 0 g.length]),.row 0 8 g.length 51 (row af.cells g)]) ?_ ?_;exact⟨rfl,⟨rfl,_,rfl,(ct ⟨si h,rfl,rfl⟩ (tk [0,2,3,4] ⟨.p,.p,.p,.b,⟨⟩⟩ ⟨(ed rfl),(nb rfl ⟨.i,.i,.s,.i,.aD,⟨⟩⟩),(nb rfl ⟨.i,.i,.s,.i,.o,⟨⟩⟩),nw,⟨⟩⟩))⟩⟩;rintro _ _ ⟨rfl,rfl,rfl⟩;replace h:=F;refine mR h (λG h=>?_) (λG h=>?_);refine⟨rfl,⟨rfl,_,rfl,⟨rfl,⟨rfl,_,rfl,(bk h λj H h=>(dS (GN H) ⟨rfl,⟨rfl,_,λ_=>[.int .i64 a.aj,.int .i64 a.ao,.str a.aq,.int .i64 j,.own 3 0 0 g.length],rfl,aB rfl,(.d ⟨rfl,_,rfl,⟨rfl,_,λ_=>[.int .i64 a.aj,.int .i64 a.ao,.str a.aq,.int .i64 j,.own 3 0 0 g.length],rfl,aB rfl,?_⟩⟩)⟩⟩))⟩⟩⟩⟩;exact Uk;refine .d ⟨rfl,_,rfl,⟨rfl,_,λ_=>[.int .i64 a.aj,.int .i64 a.ao,.str a.aq,.int .i64 a.ak,.own 3 0 0 g.length],rfl,aB rfl,?_⟩⟩;exact Uk
set_option synthInstance.maxHeartbeats 400000
set_option synthInstance.maxSize 4000
mutual
def wi (d:aF) (e:Int):Option (ai×aF):=if e<=0 then Dd d>>=λ(g,h)=>some (g,h)else om d 3>>=λ(i,f)=>if i then(pf f 5>>=λ(b,a)=>hZ e a.fB a.fI a.fH 0 ([]:List af) b:Option ((List UInt8)×Int×Int×Int×(List af)))>>=λ(j,k,l,m,n)=>some ((ai.mk 4 0 [] m n),(aF.mk j k l))else Dd f>>=λ(o,c)=>some (o,c) partial_fixpoint
def hZ (e:Int) (l:List UInt8) (m:Int) (n:Int) (b:Int) (f:List af) (g:Int):Option ((List UInt8)×Int×Int×Int×(List af)):=if g>0 then zn (aF.mk l m n)>>=λ(c,t)=>(om t 2>>=λ(u,a)=>(if u then if b<=1000000000 then some (a.fB,a.fI,a.fH,false,b,[])else some (a.fB,a.fI,a.fH,c.av,c.ao,c.aq)else some (a.fB,a.fI,a.fH,c.av,c.ao,c.aq)):Option ((List UInt8)×Int×Int×Bool×Int×cR))>>=λ(o,p,q,h,i,r)=>uC (ai.mk 4 0 [] b f) (az.mk h i r)>>=λv=>if v<0 then wi (aF.mk o p q) (bc (e - 1))>>=λ(j,d)=>eg 96 f ([(af.mk (az.mk h i r) j)]:List af)>>=λs=>if h then hZ e d.fB d.fI d.fH b s (bc (g - 1))else DG b (bc (i+1))>>=λk=>hZ e d.fB d.fI d.fH k s (bc (g - 1))else hZ e o p q b f (bc (g - 1))else some (l,m,n,b,f) partial_fixpoint
end
def yf (a:aF) (b:Int) (r:ai×aF):Prop:=∀aw:Nat,ACall Tryd.prog 29 [.aH 0 aw 0 0,.int .i64 b] [.row aw 3 1 57 (λ_=>a.lit)] (λres h=>res=.agg r.1.lit/\h=[.row aw 3 1 57 (λ_=>r.2.lit)])
inductive iJ:Int->(List UInt8)->Int->Int->Int->(List af)->Int->((List UInt8)×Int×Int×Int×(List af))->Prop
 | mk (Jw:aF->Int->Option (ai×aF)) (MR:∀a0 a1 r,Jw a0 a1=some r->yf a0 a1 r) (fq:Int->(List UInt8)->Int->Int->Int->(List af)->Int->Option ((List UInt8)×Int×Int×Int×(List af))) (zo:∀a1 kP jG jH fJ dF ji o,fq a1 kP jG jH fJ dF ji=some o->iJ a1 kP jG jH fJ dF ji o) (a1:Int) (kP:List UInt8) (jG:Int) (jH:Int) (fJ:Int) (dF:List af) (ji:Int) (o:(List UInt8)×Int×Int×Int×(List af)) (h:(
 (if ji>0 then
 zn (aF.mk kP jG jH)>>=λ(gg,Ah)=>
 (
 om Ah 2>>=λ(sd,v46)=>
 (if sd=true then
 (if fJ<=1000000000 then
 some (v46.fB,v46.fI,v46.fH,false,fJ,[])
 else
 some (v46.fB,v46.fI,v46.fH,gg.av,gg.ao,gg.aq))
 else
 some (v46.fB,v46.fI,v46.fH,gg.av,gg.ao,gg.aq))
 :Option ((List UInt8)×Int×Int×Bool×Int×cR))>>=λ(wk,wm,wo,oB,oC,pY)=>
 uC (ai.mk 4 0 [] fJ dF) (az.mk oB oC pY)>>=λDI=>
 (if DI<0 then
 Jw (aF.mk wk wm wo) (bc (a1 - 1))>>=λ(v53,jI)=>
 eg 96 dF ([(af.mk (az.mk oB oC pY) v53)]:List af)>>=λrL=>
 (if oB=true then
 fq a1 jI.fB jI.fI jI.fH fJ rL (bc (ji - 1))
 else
 DG fJ (bc (oC+1))>>=λv59=>
 fq a1 jI.fB jI.fI jI.fH v59 rL (bc (ji - 1)))
 else
 fq a1 wk wm wo fJ dF (bc (ji - 1)))
 else
 some (kP,jG,jH,fJ,dF))
 )=some o):iJ a1 kP jG jH fJ dF ji o
theorem qh {motive:Int->(List UInt8)->Int->Int->Int->(List af)->Int->((List UInt8)×Int×Int×Int×(List af))->Prop} (step:∀(s:aF->Int->Option (ai×aF)) (C:∀t a r,s t a=some r->yf t a r) (l:Int->(List UInt8)->Int->Int->Int->(List af)->Int->Option ((List UInt8)×Int×Int×Int×(List af))) (D:∀a f g i b d e o,l a f g i b d e=some o->iJ a f g i b d e o) (a:Int) (f:List UInt8) (g:Int) (i:Int) (b:Int) (d:List af) (e:Int) (o:(List UInt8)×Int×Int×Int×(List af)) (h:(
 (if e>0 then
 zn (aF.mk f g i)>>=λ(j,z)=>
 (
 om z 2>>=λ(A,c)=>
 (if A=true then
 (if b<=1000000000 then
 some (c.fB,c.fI,c.fH,false,b,[])
 else
 some (c.fB,c.fI,c.fH,j.av,j.ao,j.aq))
 else
 some (c.fB,c.fI,c.fH,j.av,j.ao,j.aq))
 :Option ((List UInt8)×Int×Int×Bool×Int×cR))>>=λ(u,v,w,m,n,x)=>
 uC (ai.mk 4 0 [] b d) (az.mk m n x)>>=λB=>
 (if B<0 then
 s (aF.mk u v w) (bc (a - 1))>>=λ(p,k)=>
 eg 96 d ([(af.mk (az.mk m n x) p)]:List af)>>=λy=>
 (if m=true then
 l a k.fB k.fI k.fH b y (bc (e - 1))
 else
 DG b (bc (n+1))>>=λq=>
 l a k.fB k.fI k.fH q y (bc (e - 1)))
 else
 l a u v w b d (bc (e - 1)))
 else
 some (f,g,i,b,d))
 )=some o) (E:∀a f g i b d e o,l a f g i b d e=some o->motive a f g i b d e o),motive a f g i b d e o):∀a f g i b d e o,iJ a f g i b d e o->motive a f g i b d e o:=
 λa f g i b d e o h=>iJ.rec (motive:=λa f g i b d e o _=>motive a f g i b d e o) step h
theorem Ba:(∀F e r,wi F e=some r->yf F e r)/\(∀e n q u c a m o,hZ e n q u c a m=some o->iJ e n q u c a m o):=by
 refine wi.mutual_partial_correctness yf iJ ?_ ?_;intro _ T F e r h aw;refine gD Tryd.func29 ?_;refine .d (.d (.d (sD h (λU h=>?_) (λU h=>?_))));refine .t (.t (.t (.t (.d ?_))));obtain⟨⟨y,V⟩,W,h⟩:=bd h;refine gl (GI (aw:=aw) W) [0] ⟨rfl,⟨⟩⟩ (.agg y.lit) [.row aw 3 1 57 (λ_=>V.lit),.row 0 5 1 26 (λ_=>[.int .i64 0,.int .i64 0,.str [],.int .i64 0,.aD])] ⟨rfl,_,λ_=>[.int .i64 y.aj,.int .i64 y.ao,.str y.aq,.int .i64 y.ak,sl 8 af.cells y.ae],rfl,aB rfl,?_⟩;exact Uf;refine .f ?_;obtain⟨⟨X,Y⟩,Z,h⟩:=bd h;refine gl (pI (aw:=aw) Z) [0] ⟨rfl,⟨⟩⟩ (.bool X) [.row aw 3 1 57 (λ_=>Y.lit),.row 0 5 1 26 (λ_=>[.int .i64 0,.int .i64 0,.str [],.int .i64 0,.aD])] (.f (.f (mR h (λtr h=>?_) (λtr h=>?_))));refine .d ?_;obtain⟨⟨z,G⟩,Bb,h⟩:=bd h;refine gl (GI (aw:=aw) Bb) [0] ⟨rfl,⟨⟩⟩ (.agg z.lit) [.row aw 3 1 57 (λ_=>G.lit),.row 0 5 1 26 (λ_=>[.int .i64 0,.int .i64 0,.str [],.int .i64 0,.aD])] ⟨rfl,_,λ_=>[.int .i64 z.aj,.int .i64 z.ao,.str z.aq,.int .i64 z.ak,sl 8 af.cells z.ae],rfl,aB rfl,?_⟩;exact Uf;refine .d (dS (gG) ⟨rfl,_,λ_=>[.int .i64 4,.int .i64 0,.str [],.int .i64 0,.aD],rfl,aB rfl,?_⟩);obtain⟨H,tz,tA⟩:=bd h;replace h:=tz;refine .cut (λσ η=>∃I,∃J,∃K,∃D,∃A,(I,J,K,D,A)=H/\σ=[(4,.aH 1 0 0 0),(5,.aH 2 0 0 0)]/\η=[.row aw 3 1 57 (λ_=>[sl 1 cB I,.int .i64 J,.int .i64 K]),.row 0 5 1 26 (λ_=>[.int .i64 0,.int .i64 0,.str [],.int .i64 0,.aD]),.row 0 5 1 26 (λ_=>[.int .i64 4,.int .i64 0,.str [],.int .i64 D,.own 3 0 0 A.length]),.row 0 8 A.length 51 (row af.cells A)]) ?_ ?_;refine .d ?_;obtain⟨⟨B,j⟩,wV,h⟩:=bd h;refine gl (nd (aw:=aw) wV) [0] ⟨rfl,⟨⟩⟩ (.int .i64 B) [.row aw 3 1 57 (λ_=>j.lit),.row 0 5 1 26 (λ_=>[.int .i64 0,.int .i64 0,.str [],.int .i64 0,.aD]),.row 0 5 1 26 (λ_=>[.int .i64 4,.int .i64 0,.str [],.int .i64 0,.aD])] ?_;have GP:=T _ _ _ _ _ _ _ _ h;refine le (qh (motive:=λR n q u c a m S=>e=R->H=S->a7 _ _ [(0,.aH 0 aw 0 0),(1,.int .i64 e),(4,.aH 1 0 0 0),(5,.aH 2 0 0 0),(6,.int .i64 m)] [.row aw 3 1 57 (λ_=>[sl 1 cB n,.int .i64 q,.int .i64 u]),.row 0 5 1 26 (λ_=>[.int .i64 0,.int .i64 0,.str [],.int .i64 0,.aD]),.row 0 5 1 26 (λ_=>[.int .i64 4,.int .i64 0,.str [],.int .i64 c,.own 3 0 0 a.length]),.row 0 8 a.length 51 (row af.cells a)]) ?_ e j.fB j.fI j.fH 0 ([]:List af) B H GP rfl rfl) (tk [0,1,2,6] ⟨.p,.i,.p,.p,.i,⟨⟩⟩ ⟨(oA rfl),(nb rfl ⟨.i,.i,.s,.i,.aD,⟨⟩⟩),(nb rfl ⟨.i,.i,.s,.i,.g,⟨⟩⟩),gh,⟨⟩⟩);intro _ GQ _ _ R n q u c a m S h wX  wY GR;subst wY;subst GR;refine a7.round (.d (.d (sD h (λwZ h=>?_) (λwZ h=>?_))));refine .d (.d ?_);obtain⟨⟨C,Ah⟩,Bc,h⟩:=bd h;refine gl (Be (aw:=aw) Bc) [0] ⟨rfl,⟨⟩⟩ (.agg C.lit) [.row aw 3 1 57 (λ_=>Ah.lit),.row 0 5 1 26 (λ_=>[.int .i64 0,.int .i64 0,.str [],.int .i64 0,.aD]),.row 0 5 1 26 (λ_=>[.int .i64 4,.int .i64 0,.str [],.int .i64 c,.own 3 0 0 a.length]),.row 0 8 a.length 51 (row af.cells a)] ⟨rfl,_,λ_=>[.bool C.av,.int .i64 C.ao,.str C.aq],rfl,aB rfl,?_⟩;obtain⟨MS,GS,GU⟩:=bd h;replace h:=GS;refine .cut (λσ η=>∃L,∃M,∃N,∃v,∃w,∃x,(L,M,N,v,w,x)=MS/\σ=[(0,.aH 0 aw 0 0),(1,.int .i64 e),(4,.aH 1 0 0 0),(5,.aH 2 0 0 0),(6,.int .i64 m),(7,.aH 4 0 0 0)]/\η=[.row aw 3 1 57 (λ_=>[sl 1 cB L,.int .i64 M,.int .i64 N]),.row 0 5 1 26 (λ_=>[.int .i64 0,.int .i64 0,.str [],.int .i64 0,.aD]),.row 0 5 1 26 (λ_=>[.int .i64 4,.int .i64 0,.str [],.int .i64 c,.own 3 0 0 a.length]),.row 0 8 a.length 51 (row af.cells a),.row 0 3 1 37 (λ_=>[.bool v,.int .i64 w,.str x])]) ?_ ?_;refine .d ?_;obtain⟨⟨sd,O⟩,w3,h⟩:=bd h;refine gl (pI (aw:=aw) w3) [0] ⟨rfl,⟨⟩⟩ (.bool sd) [.row aw 3 1 57 (λ_=>O.lit),.row 0 5 1 26 (λ_=>[.int .i64 0,.int .i64 0,.str [],.int .i64 0,.aD]),.row 0 5 1 26 (λ_=>[.int .i64 4,.int .i64 0,.str [],.int .i64 c,.own 3 0 0 a.length]),.row 0 8 a.length 51 (row af.cells a),.row 0 3 1 37 (λ_=>C.lit)] (sV h (λGV h=>?_) (λGV h=>?_));refine⟨rfl,(.t ⟨rfl,_,rfl,(.t (.t (sD h (λGW h=>?_) (λGW h=>?_))))⟩)⟩;exact⟨rfl,⟨rfl,_,rfl,⟨rfl,_,λ_=>[.bool false,.int .i64 c,.str []],rfl,aB rfl,(ct ⟨_,_,_,_,_,_,si h,rfl,rfl⟩ (tk [0,1,2,3,4] ⟨.p,.i,.p,.p,.i,.p,⟨⟩⟩ ⟨(oA rfl),(nb rfl ⟨.i,.i,.s,.i,.aD,⟨⟩⟩),(nb rfl ⟨.i,.i,.s,.i,.o,⟨⟩⟩),nw,(ed rfl),⟨⟩⟩))⟩⟩⟩;exact ct ⟨_,_,_,_,_,_,si h,rfl,rfl⟩ (tk [0,1,2,3,4] ⟨.p,.i,.p,.p,.i,.p,⟨⟩⟩ ⟨(oA rfl),(nb rfl ⟨.i,.i,.s,.i,.aD,⟨⟩⟩),(nb rfl ⟨.i,.i,.s,.i,.o,⟨⟩⟩),nw,(ed rfl),⟨⟩⟩);exact .f (.f (.f (.f (ct ⟨_,_,_,_,_,_,si h,rfl,rfl⟩ (tk [0,1,2,3,4] ⟨.p,.i,.p,.p,.i,.p,⟨⟩⟩ ⟨(oA rfl),(nb rfl ⟨.i,.i,.s,.i,.aD,⟨⟩⟩),(nb rfl ⟨.i,.i,.s,.i,.o,⟨⟩⟩),nw,(ed rfl),⟨⟩⟩)))));rintro _ _ ⟨L,M,N,v,w,x,rfl,rfl,rfl⟩;refine .d ⟨rfl,_,rfl,⟨rfl,_,rfl,(bk GU λDI GX h=>(Bf (A4 GX) ⟨.aM ⟨.i,.i,.s,.i,.r,⟨⟩⟩,.aM ⟨.b,.i,.s,⟨⟩⟩,⟨⟩⟩ (sD h (λwQ h=>?_) (λwQ h=>?_))))⟩⟩;refine .d (.float [(0,true),(1,true),(2,true),(3,true),(4,true),(5,true),(6,false),(7,true),(8,false),(9,false),(10,true),(11,false)] UR ?_);refine⟨rfl,⟨rfl,_,rfl,⟨rfl,_,rfl,?_⟩⟩⟩;obtain⟨⟨k,jI⟩,Bg,h⟩:=bd h;refine gl (GQ _ _ _ Bg _) [0] ⟨rfl,⟨⟩⟩ (.agg k.lit) [.row aw 3 1 57 (λ_=>jI.lit),.row 0 5 1 26 (λ_=>[.int .i64 0,.int .i64 0,.str [],.int .i64 0,.aD]),.row 0 5 1 26 (λ_=>[.int .i64 4,.int .i64 0,.str [],.int .i64 c,.own 3 0 0 a.length]),.row 0 8 a.length 51 (row af.cells a),.row 0 3 1 37 (λ_=>[.bool v,.int .i64 w,.str x])] ⟨rfl,⟨rfl,⟨rfl,⟨row af.cells ([(af.mk (az.mk v w x) k)]:List af),cA af.cells ([(af.mk (az.mk v w x) k)]:List af) rfl (iE (af.aO _) ⟨.same _,.same _,.same _,.same _,.same _,.same _,.same _,.same _,trivial⟩ trivial),⟨rfl,⟨rfl,(bk h λE P h=>(.fG ⟨rfl,rfl,kb (l:=([(af.mk (az.mk v w x) k)]:List af)) aS,dV P,E.length,row af.cells E,dw P,dE P aS (ik aS),⟨rfl,⟨rfl,_,λ_=>[.int .i64 4,.int .i64 0,.str [],.int .i64 c,.own 3 (0+1) 0 E.length],rfl,aB rfl,(.d ⟨rfl,⟨rfl,_,rfl,(mR h (λBh h=>?_) (λBh h=>?_))⟩⟩)⟩⟩⟩))⟩⟩⟩⟩⟩⟩;exact⟨rfl,⟨rfl,_,rfl,⟨rfl,⟨rfl,_,rfl,(bk h λQ Bi h=>(dS (GN Bi) ⟨rfl,⟨rfl,_,λ_=>[.int .i64 4,.int .i64 0,.str [],.int .i64 Q,.own 3 (0+1) 0 E.length],rfl,aB rfl,(lg (wX _ _ _ _ _ _ _ _ h rfl rfl) (tk [0,1,2,3] ⟨.p,.i,.p,.p,.i,⟨⟩⟩ ⟨(oA rfl),(nb rfl ⟨.i,.i,.s,.i,.aD,⟨⟩⟩),(nb rfl ⟨.i,.i,.s,.i,.o,⟨⟩⟩),nw,⟨⟩⟩))⟩⟩))⟩⟩⟩⟩;exact Ur;exact Ur;exact ct ⟨_,_,_,_,_,si h,rfl,rfl⟩ (tk [0,1,2,3] ⟨.p,.p,⟨⟩⟩ ⟨(oA rfl),(nb rfl ⟨.i,.i,.s,.i,.aD,⟨⟩⟩),(nb rfl ⟨.i,.i,.s,.i,.o,⟨⟩⟩),nw,⟨⟩⟩);rintro _ _ ⟨I,J,K,D,A,rfl,rfl,rfl⟩;replace h:=tA;refine .d ⟨rfl,_,rfl,⟨rfl,_,λ_=>[.int .i64 4,.int .i64 0,.str [],.int .i64 D,.own 3 0 0 A.length],rfl,aB rfl,?_⟩⟩;exact Ub;intro F0 F1 wD wE e n q u c a m o h;exact .mk F0 wD F1 wE e n q u c a m o h
theorem MT {a:aF} {b:Int} {r:ai×aF} {aw:Nat} (h:wi a b=some r):ACall Tryd.prog 29 [.aH 0 aw 0 0,.int .i64 b] [.row aw 3 1 57 (λ_=>a.lit)] (λres h=>res=.agg r.1.lit/\h=[.row aw 3 1 57 (λ_=>r.2.lit)]):=Ba.1 a b r h aw
theorem MU {N:aF} {v:Int} {r:ai×aF} {aw:Nat} (h:wi N v=some r):ACall Tryd.prog 29 [.aH 0 aw 0 0,.int .i64 v] [.row aw 3 1 57 (λ_=>N.lit)] (λres h=>res=.agg [.int .i64 r.1.aj,.int .i64 r.1.ao,.str r.1.aq,.int .i64 r.1.ak,.own 1 0 0 r.1.ae.length]/\h=[.row aw 3 1 57 (λ_=>r.2.lit),.row 0 8 r.1.ae.length 51 (row af.cells r.1.ae)]):=by
 have T:=Ba.2;refine gD Tryd.func29 ?_;unfold wi at h;refine .d (.d (.d (sD h (λU h=>?_) (λU h=>?_))));refine .t (.t (.t (.t (.d ?_))));obtain⟨⟨c,V⟩,W,h⟩:=bd h;refine gl (Ju (aw:=aw) W) [0] ⟨rfl,⟨⟩⟩ (.agg [.int .i64 c.aj,.int .i64 c.ao,.str c.aq,.int .i64 c.ak,.own 2 0 0 c.ae.length]) [.row aw 3 1 57 (λ_=>V.lit),.row 0 5 1 26 (λ_=>[.int .i64 0,.int .i64 0,.str [],.int .i64 0,.aD]),.row 0 8 c.ae.length 51 (row af.cells c.ae)] ⟨rfl,_,λ_=>[.int .i64 c.aj,.int .i64 c.ao,.str c.aq,.int .i64 c.ak,.own 2 0 0 c.ae.length],rfl,aB rfl,?_⟩;exact Ui;refine .f ?_;obtain⟨⟨X,Y⟩,Z,h⟩:=bd h;refine gl (pI (aw:=aw) Z) [0] ⟨rfl,⟨⟩⟩ (.bool X) [.row aw 3 1 57 (λ_=>Y.lit),.row 0 5 1 26 (λ_=>[.int .i64 0,.int .i64 0,.str [],.int .i64 0,.aD])] (.f (.f (mR h (λtr h=>?_) (λtr h=>?_))));refine .d ?_;obtain⟨⟨e,B⟩,Bb,h⟩:=bd h;refine gl (Ju (aw:=aw) Bb) [0] ⟨rfl,⟨⟩⟩ (.agg [.int .i64 e.aj,.int .i64 e.ao,.str e.aq,.int .i64 e.ak,.own 2 0 0 e.ae.length]) [.row aw 3 1 57 (λ_=>B.lit),.row 0 5 1 26 (λ_=>[.int .i64 0,.int .i64 0,.str [],.int .i64 0,.aD]),.row 0 8 e.ae.length 51 (row af.cells e.ae)] ⟨rfl,_,λ_=>[.int .i64 e.aj,.int .i64 e.ao,.str e.aq,.int .i64 e.ak,.own 2 0 0 e.ae.length],rfl,aB rfl,?_⟩;exact Ui;refine .d (dS (gG) ⟨rfl,_,λ_=>[.int .i64 4,.int .i64 0,.str [],.int .i64 0,.aD],rfl,aB rfl,?_⟩);obtain⟨C,tz,tA⟩:=bd h;replace h:=tz;refine .cut (λσ η=>∃D,∃E,∃F,∃z,∃w,(D,E,F,z,w)=C/\σ=[(4,.aH 1 0 0 0),(5,.aH 2 0 0 0)]/\η=[.row aw 3 1 57 (λ_=>[sl 1 cB D,.int .i64 E,.int .i64 F]),.row 0 5 1 26 (λ_=>[.int .i64 0,.int .i64 0,.str [],.int .i64 0,.aD]),.row 0 5 1 26 (λ_=>[.int .i64 4,.int .i64 0,.str [],.int .i64 z,.own 3 0 0 w.length]),.row 0 8 w.length 51 (row af.cells w)]) ?_ ?_;refine .d ?_;obtain⟨⟨x,j⟩,wV,h⟩:=bd h;refine gl (nd (aw:=aw) wV) [0] ⟨rfl,⟨⟩⟩ (.int .i64 x) [.row aw 3 1 57 (λ_=>j.lit),.row 0 5 1 26 (λ_=>[.int .i64 0,.int .i64 0,.str [],.int .i64 0,.aD]),.row 0 5 1 26 (λ_=>[.int .i64 4,.int .i64 0,.str [],.int .i64 0,.aD])] ?_;have GP:=T _ _ _ _ _ _ _ _ h;refine le (qh (motive:=λO P Q R m a G S=>v=O->C=S->a7 _ _ [(0,.aH 0 aw 0 0),(1,.int .i64 v),(4,.aH 1 0 0 0),(5,.aH 2 0 0 0),(6,.int .i64 G)] [.row aw 3 1 57 (λ_=>[sl 1 cB P,.int .i64 Q,.int .i64 R]),.row 0 5 1 26 (λ_=>[.int .i64 0,.int .i64 0,.str [],.int .i64 0,.aD]),.row 0 5 1 26 (λ_=>[.int .i64 4,.int .i64 0,.str [],.int .i64 m,.own 3 0 0 a.length]),.row 0 8 a.length 51 (row af.cells a)]) ?_ v j.fB j.fI j.fH 0 ([]:List af) x C GP rfl rfl) (tk [0,1,2,6] ⟨.p,.i,.p,.p,.i,⟨⟩⟩ ⟨(oA rfl),(nb rfl ⟨.i,.i,.s,.i,.aD,⟨⟩⟩),(nb rfl ⟨.i,.i,.s,.i,.g,⟨⟩⟩),gh,⟨⟩⟩);intro _ GQ _ _ O P Q R m a G S h wX  wY GR;subst wY;subst GR;refine a7.round (.d (.d (sD h (λwZ h=>?_) (λwZ h=>?_))));refine .d (.d ?_);obtain⟨⟨y,Ah⟩,Bc,h⟩:=bd h;refine gl (Be (aw:=aw) Bc) [0] ⟨rfl,⟨⟩⟩ (.agg y.lit) [.row aw 3 1 57 (λ_=>Ah.lit),.row 0 5 1 26 (λ_=>[.int .i64 0,.int .i64 0,.str [],.int .i64 0,.aD]),.row 0 5 1 26 (λ_=>[.int .i64 4,.int .i64 0,.str [],.int .i64 m,.own 3 0 0 a.length]),.row 0 8 a.length 51 (row af.cells a)] ⟨rfl,_,λ_=>[.bool y.av,.int .i64 y.ao,.str y.aq],rfl,aB rfl,?_⟩;obtain⟨MS,GS,GU⟩:=bd h;replace h:=GS;refine .cut (λσ η=>∃H,∃I,∃J,∃n,∃q,∃u,(H,I,J,n,q,u)=MS/\σ=[(0,.aH 0 aw 0 0),(1,.int .i64 v),(4,.aH 1 0 0 0),(5,.aH 2 0 0 0),(6,.int .i64 G),(7,.aH 4 0 0 0)]/\η=[.row aw 3 1 57 (λ_=>[sl 1 cB H,.int .i64 I,.int .i64 J]),.row 0 5 1 26 (λ_=>[.int .i64 0,.int .i64 0,.str [],.int .i64 0,.aD]),.row 0 5 1 26 (λ_=>[.int .i64 4,.int .i64 0,.str [],.int .i64 m,.own 3 0 0 a.length]),.row 0 8 a.length 51 (row af.cells a),.row 0 3 1 37 (λ_=>[.bool n,.int .i64 q,.str u])]) ?_ ?_;refine .d ?_;obtain⟨⟨sd,K⟩,w3,h⟩:=bd h;refine gl (pI (aw:=aw) w3) [0] ⟨rfl,⟨⟩⟩ (.bool sd) [.row aw 3 1 57 (λ_=>K.lit),.row 0 5 1 26 (λ_=>[.int .i64 0,.int .i64 0,.str [],.int .i64 0,.aD]),.row 0 5 1 26 (λ_=>[.int .i64 4,.int .i64 0,.str [],.int .i64 m,.own 3 0 0 a.length]),.row 0 8 a.length 51 (row af.cells a),.row 0 3 1 37 (λ_=>y.lit)] (sV h (λGV h=>?_) (λGV h=>?_));refine⟨rfl,(.t ⟨rfl,_,rfl,(.t (.t (sD h (λGW h=>?_) (λGW h=>?_))))⟩)⟩;exact⟨rfl,⟨rfl,_,rfl,⟨rfl,_,λ_=>[.bool false,.int .i64 m,.str []],rfl,aB rfl,(ct ⟨_,_,_,_,_,_,si h,rfl,rfl⟩ (tk [0,1,2,3,4] ⟨.p,.i,.p,.p,.i,.p,⟨⟩⟩ ⟨(oA rfl),(nb rfl ⟨.i,.i,.s,.i,.aD,⟨⟩⟩),(nb rfl ⟨.i,.i,.s,.i,.o,⟨⟩⟩),nw,(ed rfl),⟨⟩⟩))⟩⟩⟩;exact ct ⟨_,_,_,_,_,_,si h,rfl,rfl⟩ (tk [0,1,2,3,4] ⟨.p,.i,.p,.p,.i,.p,⟨⟩⟩ ⟨(oA rfl),(nb rfl ⟨.i,.i,.s,.i,.aD,⟨⟩⟩),(nb rfl ⟨.i,.i,.s,.i,.o,⟨⟩⟩),nw,(ed rfl),⟨⟩⟩);exact .f (.f (.f (.f (ct ⟨_,_,_,_,_,_,si h,rfl,rfl⟩ (tk [0,1,2,3,4] ⟨.p,.i,.p,.p,.i,.p,⟨⟩⟩ ⟨(oA rfl),(nb rfl ⟨.i,.i,.s,.i,.aD,⟨⟩⟩),(nb rfl ⟨.i,.i,.s,.i,.o,⟨⟩⟩),nw,(ed rfl),⟨⟩⟩)))));rintro _ _ ⟨H,I,J,n,q,u,rfl,rfl,rfl⟩;refine .d ⟨rfl,_,rfl,⟨rfl,_,rfl,(bk GU λDI GX h=>(Bf (A4 GX) ⟨.aM ⟨.i,.i,.s,.i,.r,⟨⟩⟩,.aM ⟨.b,.i,.s,⟨⟩⟩,⟨⟩⟩ (sD h (λwQ h=>?_) (λwQ h=>?_))))⟩⟩;refine .d (.float [(0,true),(1,true),(2,true),(3,true),(4,true),(5,true),(6,false),(7,true),(8,false),(9,false),(10,true),(11,false)] UR ?_);refine⟨rfl,⟨rfl,_,rfl,⟨rfl,_,rfl,?_⟩⟩⟩;obtain⟨⟨k,jI⟩,Bg,h⟩:=bd h;refine gl (GQ _ _ _ Bg _) [0] ⟨rfl,⟨⟩⟩ (.agg k.lit) [.row aw 3 1 57 (λ_=>jI.lit),.row 0 5 1 26 (λ_=>[.int .i64 0,.int .i64 0,.str [],.int .i64 0,.aD]),.row 0 5 1 26 (λ_=>[.int .i64 4,.int .i64 0,.str [],.int .i64 m,.own 3 0 0 a.length]),.row 0 8 a.length 51 (row af.cells a),.row 0 3 1 37 (λ_=>[.bool n,.int .i64 q,.str u])] ⟨rfl,⟨rfl,⟨rfl,⟨row af.cells ([(af.mk (az.mk n q u) k)]:List af),cA af.cells ([(af.mk (az.mk n q u) k)]:List af) rfl (iE (af.aO _) ⟨.same _,.same _,.same _,.same _,.same _,.same _,.same _,.same _,trivial⟩ trivial),⟨rfl,⟨rfl,(bk h λA L h=>(.fG ⟨rfl,rfl,kb (l:=([(af.mk (az.mk n q u) k)]:List af)) aS,dV L,A.length,row af.cells A,dw L,dE L aS (ik aS),⟨rfl,⟨rfl,_,λ_=>[.int .i64 4,.int .i64 0,.str [],.int .i64 m,.own 3 (0+1) 0 A.length],rfl,aB rfl,(.d ⟨rfl,⟨rfl,_,rfl,(mR h (λBh h=>?_) (λBh h=>?_))⟩⟩)⟩⟩⟩))⟩⟩⟩⟩⟩⟩;exact⟨rfl,⟨rfl,_,rfl,⟨rfl,⟨rfl,_,rfl,(bk h λM Bi h=>(dS (GN Bi) ⟨rfl,⟨rfl,_,λ_=>[.int .i64 4,.int .i64 0,.str [],.int .i64 M,.own 3 (0+1) 0 A.length],rfl,aB rfl,(lg (wX _ _ _ _ _ _ _ _ h rfl rfl) (tk [0,1,2,3] ⟨.p,.i,.p,.p,.i,⟨⟩⟩ ⟨(oA rfl),(nb rfl ⟨.i,.i,.s,.i,.aD,⟨⟩⟩),(nb rfl ⟨.i,.i,.s,.i,.o,⟨⟩⟩),nw,⟨⟩⟩))⟩⟩))⟩⟩⟩⟩;exact Ur;exact Ur;exact ct ⟨_,_,_,_,_,si h,rfl,rfl⟩ (tk [0,1,2,3] ⟨.p,.p,⟨⟩⟩ ⟨(oA rfl),(nb rfl ⟨.i,.i,.s,.i,.aD,⟨⟩⟩),(nb rfl ⟨.i,.i,.s,.i,.o,⟨⟩⟩),nw,⟨⟩⟩);rintro _ _ ⟨D,E,F,z,w,rfl,rfl,rfl⟩;replace h:=tA;refine .d ⟨rfl,_,rfl,⟨rfl,_,λ_=>[.int .i64 4,.int .i64 0,.str [],.int .i64 z,.own 3 0 0 w.length],rfl,aB rfl,?_⟩⟩;obtain rfl:=si h;exact⟨rfl,_,rfl,(en [0,3] ⟨rfl,rfl⟩ (.aM ⟨.i,.i,.s,.i,.o,⟨⟩⟩) ⟨(ob rfl ⟨.l,.i,.i,⟨⟩⟩),nw,⟨⟩⟩)⟩
def Jz (f:aF):Option (ai×aF):=wi f 3>>=λ(a,g)=>pf g 14>>=λ(c,b)=>if c=0 then IH b>>=λ(h,i)=>some ((ai.mk a.aj h a.aq a.ak a.ae),i)else if c=1 then IH b>>=λ(d,j)=>some ((ai.mk a.aj a.ao a.aq d a.ae),j)else if c=2 then DF b ([(-1),4,5,6,7,8,9]:List Int)>>=λ(k,l)=>some ((ai.mk k a.ao a.aq a.ak a.ae),l)else(some ():Option (Unit))>>=λ_=>if c=3 then zn b>>=λ(m,e)=>Dd e>>=λ(n,o)=>eg 96 a.ae ([(af.mk m n)]:List af)>>=λp=>some ((ai.mk a.aj a.ao a.aq a.ak p),o)else if c=4 then pf b 3>>=λ(q,r)=>pf r 3>>=λ(s,t)=>some ((ai.mk (bc (6+q)) s [] 0 []),t)else some (a,b)
theorem MW {v:aF} {r:ai×aF} {aw:Nat} (h:Jz v=some r):ACall Tryd.prog 30 [.aH 0 aw 0 0] [.row aw 3 1 57 (λ_=>v.lit)] (λres h=>res=.agg r.1.lit/\h=[.row aw 3 1 57 (λ_=>r.2.lit)]):=by
 refine gD Tryd.func30 ?_;unfold Jz at h;refine .d (.d ?_);obtain⟨⟨a,x⟩,y,h⟩:=bd h;refine gl (MU (aw:=aw) y) [0] ⟨rfl,⟨⟩⟩ (.agg [.int .i64 a.aj,.int .i64 a.ao,.str a.aq,.int .i64 a.ak,.own 2 0 0 a.ae.length]) [.row aw 3 1 57 (λ_=>x.lit),.row 0 5 1 26 (λ_=>[.int .i64 0,.int .i64 0,.str [],.int .i64 0,.aD]),.row 0 8 a.ae.length 51 (row af.cells a.ae)] ⟨rfl,_,λ_=>[.int .i64 a.aj,.int .i64 a.ao,.str a.aq,.int .i64 a.ak,.own 2 0 0 a.ae.length],rfl,aB rfl,(.d (.d ?_))⟩;obtain⟨⟨j,w⟩,z,h⟩:=bd h;refine gl (nd (aw:=aw) z) [0] ⟨rfl,⟨⟩⟩ (.int .i64 j) [.row aw 3 1 57 (λ_=>w.lit),.row 0 5 1 26 (λ_=>[.int .i64 0,.int .i64 0,.str [],.int .i64 0,.aD]),.row 0 8 a.ae.length 51 (row af.cells a.ae),.row 0 5 1 26 (λ_=>[.int .i64 a.aj,.int .i64 a.ao,.str a.aq,.int .i64 a.ak,.own 2 0 0 a.ae.length])] (.d (sE h (λA h=>?_) (λA h=>?_)));obtain⟨⟨k,B⟩,C,h⟩:=bd h;refine gl (JB (aw:=aw) C) [0] ⟨rfl,⟨⟩⟩ (.int .i64 k) [.row aw 3 1 57 (λ_=>B.lit),.row 0 5 1 26 (λ_=>[.int .i64 0,.int .i64 0,.str [],.int .i64 0,.aD]),.row 0 8 a.ae.length 51 (row af.cells a.ae),.row 0 5 1 26 (λ_=>[.int .i64 a.aj,.int .i64 a.ao,.str a.aq,.int .i64 a.ak,.own 2 0 0 a.ae.length])] ⟨rfl,⟨rfl,_,λ_=>[.int .i64 a.aj,.int .i64 k,.str a.aq,.int .i64 a.ak,.own 2 0 0 a.ae.length],rfl,aB rfl,(.d ⟨rfl,_,rfl,⟨rfl,_,λ_=>[.int .i64 a.aj,.int .i64 k,.str a.aq,.int .i64 a.ak,.own 2 0 0 a.ae.length],rfl,aB rfl,?_⟩⟩)⟩⟩;exact Ub;refine .d (sE h (λD h=>?_) (λD h=>?_));obtain⟨⟨c,E⟩,F,h⟩:=bd h;refine gl (JB (aw:=aw) F) [0] ⟨rfl,⟨⟩⟩ (.int .i64 c) [.row aw 3 1 57 (λ_=>E.lit),.row 0 5 1 26 (λ_=>[.int .i64 0,.int .i64 0,.str [],.int .i64 0,.aD]),.row 0 8 a.ae.length 51 (row af.cells a.ae),.row 0 5 1 26 (λ_=>[.int .i64 a.aj,.int .i64 a.ao,.str a.aq,.int .i64 a.ak,.own 2 0 0 a.ae.length])] ⟨rfl,⟨rfl,_,λ_=>[.int .i64 a.aj,.int .i64 a.ao,.str a.aq,.int .i64 c,.own 2 0 0 a.ae.length],rfl,aB rfl,(.d ⟨rfl,_,rfl,⟨rfl,_,λ_=>[.int .i64 a.aj,.int .i64 a.ao,.str a.aq,.int .i64 c,.own 2 0 0 a.ae.length],rfl,aB rfl,?_⟩⟩)⟩⟩;exact Ub;refine .d (sE h (λG h=>?_) (λG h=>?_));refine⟨row cI ([(-1),4,5,6,7,8,9]:List Int),cA cI ([(-1),4,5,6,7,8,9]:List Int) rfl (cU rfl),?_⟩;obtain⟨⟨m,H⟩,I,h⟩:=bd h;refine gl (A9 (aw:=aw) (aY:=0) I) [0,4] ⟨rfl,ov,⟨⟩⟩ (.int .i64 m) [.row aw 3 1 57 (λ_=>H.lit),.row 0 5 1 26 (λ_=>[.int .i64 0,.int .i64 0,.str [],.int .i64 0,.aD]),.row 0 8 a.ae.length 51 (row af.cells a.ae),.row 0 5 1 26 (λ_=>[.int .i64 a.aj,.int .i64 a.ao,.str a.aq,.int .i64 a.ak,.own 2 0 0 a.ae.length]),.row 0 1 ([(-1),4,5,6,7,8,9]:List Int).length 3 (row cI ([(-1),4,5,6,7,8,9]:List Int))] ⟨rfl,⟨rfl,_,λ_=>[.int .i64 m,.int .i64 a.ao,.str a.aq,.int .i64 a.ak,.own 2 0 0 a.ae.length],rfl,aB rfl,(.d ⟨rfl,_,rfl,⟨rfl,_,λ_=>[.int .i64 m,.int .i64 a.ao,.str a.aq,.int .i64 a.ak,.own 2 0 0 a.ae.length],rfl,aB rfl,?_⟩⟩)⟩⟩;exact Ub;obtain⟨J,K,L⟩:=bd h;replace h:=K;refine .cut (λσ η=>()=J/\σ=[(0,.aH 0 aw 0 0),(2,.aH 1 0 0 0),(3,.aH 2 0 0 0),(7,.int .i64 j),(24,.bool (j==3))]/\η=[.row aw 3 1 57 (λ_=>w.lit),.row 0 5 1 26 (λ_=>[.int .i64 0,.int .i64 0,.str [],.int .i64 0,.aD]),.row 0 5 1 26 (λ_=>[.int .i64 a.aj,.int .i64 a.ao,.str a.aq,.int .i64 a.ak,.own 3 0 0 a.ae.length]),.row 0 8 a.ae.length 51 (row af.cells a.ae)]) ?_ ?_;exact ct ⟨si h,rfl,rfl⟩ (tk [0,1,3,2] ⟨.p,.p,.p,.i,.b,⟨⟩⟩ ⟨(oA rfl),(nb rfl ⟨.i,.i,.s,.i,.aD,⟨⟩⟩),(nb rfl ⟨.i,.i,.s,.i,.o,⟨⟩⟩),nw,⟨⟩⟩);rintro _ _ ⟨rfl,rfl,rfl⟩;refine sE L (λM h=>?_) (λM h=>?_);refine .float [(0,true),(1,true),(2,true),(4,true),(3,false),(5,false),(6,true),(7,false),(8,false),(9,true),(10,false)] UR ?_;refine⟨rfl,⟨rfl,_,rfl,?_⟩⟩;obtain⟨⟨e,n⟩,N,h⟩:=bd h;refine gl (Be (aw:=aw) N) [0] ⟨rfl,⟨⟩⟩ (.agg e.lit) [.row aw 3 1 57 (λ_=>n.lit),.row 0 5 1 26 (λ_=>[.int .i64 0,.int .i64 0,.str [],.int .i64 0,.aD]),.row 0 5 1 26 (λ_=>[.int .i64 a.aj,.int .i64 a.ao,.str a.aq,.int .i64 a.ak,.own 3 0 0 a.ae.length]),.row 0 8 a.ae.length 51 (row af.cells a.ae)] ⟨rfl,⟨rfl,?_⟩⟩;obtain⟨⟨f,O⟩,P,h⟩:=bd h;refine gl (GI (aw:=aw) P) [0] ⟨rfl,⟨⟩⟩ (.agg f.lit) [.row aw 3 1 57 (λ_=>O.lit),.row 0 5 1 26 (λ_=>[.int .i64 0,.int .i64 0,.str [],.int .i64 0,.aD]),.row 0 5 1 26 (λ_=>[.int .i64 a.aj,.int .i64 a.ao,.str a.aq,.int .i64 a.ak,.own 3 0 0 a.ae.length]),.row 0 8 a.ae.length 51 (row af.cells a.ae)] ⟨rfl,⟨rfl,⟨row af.cells ([(af.mk e f)]:List af),cA af.cells ([(af.mk e f)]:List af) rfl (iE (af.aO _) ⟨.same _,.same _,.same _,.same _,.same _,.same _,.same _,.same _,trivial⟩ trivial),⟨rfl,⟨rfl,(bk h λg q h=>(.fG ⟨rfl,rfl,kb (l:=([(af.mk e f)]:List af)) aS,dV q,g.length,row af.cells g,dw q,dE q aS (ik aS),⟨rfl,⟨rfl,_,λ_=>[.int .i64 a.aj,.int .i64 a.ao,.str a.aq,.int .i64 a.ak,.own 3 (0+1) 0 g.length],rfl,aB rfl,(.d ⟨rfl,_,rfl,⟨rfl,_,λ_=>[.int .i64 a.aj,.int .i64 a.ao,.str a.aq,.int .i64 a.ak,.own 3 (0+1) 0 g.length],rfl,aB rfl,?_⟩⟩)⟩⟩⟩))⟩⟩⟩⟩⟩;exact Ub;refine .d (sE h (λQ h=>?_) (λQ h=>?_));obtain⟨⟨t,R⟩,S,h⟩:=bd h;refine gl (nd (aw:=aw) S) [0] ⟨rfl,⟨⟩⟩ (.int .i64 t) [.row aw 3 1 57 (λ_=>R.lit),.row 0 5 1 26 (λ_=>[.int .i64 0,.int .i64 0,.str [],.int .i64 0,.aD]),.row 0 5 1 26 (λ_=>[.int .i64 a.aj,.int .i64 a.ao,.str a.aq,.int .i64 a.ak,.own 3 0 0 a.ae.length]),.row 0 8 a.ae.length 51 (row af.cells a.ae)] ?_;obtain⟨⟨u,T⟩,U,h⟩:=bd h;refine gl (nd (aw:=aw) U) [0] ⟨rfl,⟨⟩⟩ (.int .i64 u) [.row aw 3 1 57 (λ_=>T.lit),.row 0 5 1 26 (λ_=>[.int .i64 0,.int .i64 0,.str [],.int .i64 0,.aD]),.row 0 5 1 26 (λ_=>[.int .i64 a.aj,.int .i64 a.ao,.str a.aq,.int .i64 a.ak,.own 3 0 0 a.ae.length]),.row 0 8 a.ae.length 51 (row af.cells a.ae)] ⟨rfl,_,λ_=>[.int .i64 (bc (6+t)),.int .i64 u,.str [],.int .i64 0,.aD],rfl,aB rfl,(.d ⟨rfl,_,rfl,⟨rfl,_,λ_=>[.int .i64 (bc (6+t)),.int .i64 u,.str [],.int .i64 0,.aD],rfl,aB rfl,?_⟩⟩)⟩;exact Ue;refine .d ⟨rfl,_,rfl,⟨rfl,_,λ_=>[.int .i64 a.aj,.int .i64 a.ao,.str a.aq,.int .i64 a.ak,.own 3 0 0 a.ae.length],rfl,aB rfl,?_⟩⟩;exact Ub
def kX (e:List UInt8) (f:Int) (g:Int) (h:Int) (i:Int) (j:cR) (k:Int) (l:List af) (m:Int):Option ((List UInt8)×Int×Int×Int×Int×cR×Int×(List af)):=if m>0 then zn (aF.mk e f g)>>=λ(n,c)=>wi c 1>>=λ(d,a)=>GM (ai.mk h i j k l) n d>>=λb=>kX a.fB a.fI a.fH b.aj b.ao b.aq b.ak b.ae (bc (m - 1))else some (e,f,g,h,i,j,k,l) partial_fixpoint
def IJ (e:aF):Option (ai×aF):=(pf e 6>>=λ(a,b)=>kX b.fB b.fI b.fH 4 0 [] 0 ([]:List af) a:Option ((List UInt8)×Int×Int×Int×Int×cR×Int×(List af)))>>=λ(f,g,h,i,j,k,l,m)=>om (aF.mk f g h) 6>>=λ(c,d)=>if c then Jz d>>=λ(n,o)=>some (n,o)else some ((ai.mk i j k l m),d)
theorem JE {D:aF} {r:ai×aF} {aw:Nat} (h:IJ D=some r):ACall Tryd.prog 12 [.aH 0 aw 0 0] [.row aw 3 1 57 (λ_=>D.lit)] (λres h=>res=.agg r.1.lit/\h=[.row aw 3 1 57 (λ_=>r.2.lit)]):=by
 refine gD Tryd.func12 ?_;unfold IJ at h;refine .d (.d (dS (gG) ⟨rfl,_,λ_=>[.int .i64 4,.int .i64 0,.str [],.int .i64 0,.aD],rfl,aB rfl,?_⟩));obtain⟨u,J,K⟩:=bd h;replace h:=J;refine .cut (λσ η=>∃v,∃w,∃x,∃a,∃b,∃c,∃e,∃f,(v,w,x,a,b,c,e,f)=u/\σ=[(0,.aH 0 aw 0 0),(2,.aH 1 0 0 0),(3,.aH 2 0 0 0)]/\η=[.row aw 3 1 57 (λ_=>[sl 1 cB v,.int .i64 w,.int .i64 x]),.row 0 5 1 26 (λ_=>[.int .i64 0,.int .i64 0,.str [],.int .i64 0,.aD]),.row 0 5 1 26 (λ_=>[.int .i64 a,.int .i64 b,.str c,.int .i64 e,sl 8 af.cells f])]) ?_ ?_;refine .d ?_;obtain⟨⟨j,l⟩,L,h⟩:=bd h;refine gl (nd (aw:=aw) L) [0] ⟨rfl,⟨⟩⟩ (.int .i64 j) [.row aw 3 1 57 (λ_=>l.lit),.row 0 5 1 26 (λ_=>[.int .i64 0,.int .i64 0,.str [],.int .i64 0,.aD]),.row 0 5 1 26 (λ_=>[.int .i64 4,.int .i64 0,.str [],.int .i64 0,.aD])] ?_;refine le (kX.partial_correctness  (motive:=λE F G m n o q t H I=>u=I->a7 _ _ [(0,.aH 0 aw 0 0),(2,.aH 1 0 0 0),(3,.aH 2 0 0 0),(4,.int .i64 H)] [.row aw 3 1 57 (λ_=>[sl 1 cB E,.int .i64 F,.int .i64 G]),.row 0 5 1 26 (λ_=>[.int .i64 0,.int .i64 0,.str [],.int .i64 0,.aD]),.row 0 5 1 26 (λ_=>[.int .i64 m,.int .i64 n,.str o,.int .i64 q,sl 8 af.cells t])]) ?_ l.fB l.fI l.fH 4 0 [] 0 ([]:List af) j u h rfl) (tk [0,1,2] ⟨.p,.p,.p,.i,⟨⟩⟩ ⟨(oA rfl),(nb rfl ⟨.i,.i,.s,.i,.aD,⟨⟩⟩),(nb rfl ⟨.i,.i,.s,.i,.z,⟨⟩⟩),⟨⟩⟩);intro Y M E F G m n o q t H I h N;subst N;refine a7.round (.d (.d (sD h (λO h=>?_) (λO h=>?_))));refine .d (.float [(0,true),(1,true),(3,true),(2,false),(4,false),(5,false),(6,false)] UR ?_);refine⟨rfl,_,rfl,?_⟩;obtain⟨⟨P,y⟩,Q,h⟩:=bd h;refine gl (Be (aw:=aw) Q) [0] ⟨rfl,⟨⟩⟩ (.agg P.lit) [.row aw 3 1 57 (λ_=>y.lit),.row 0 5 1 26 (λ_=>[.int .i64 0,.int .i64 0,.str [],.int .i64 0,.aD]),.row 0 5 1 26 (λ_=>[.int .i64 m,.int .i64 n,.str o,.int .i64 q,sl 8 af.cells t])] ⟨rfl,?_⟩;obtain⟨⟨A,B⟩,R,h⟩:=bd h;exact gl (MT (aw:=aw) R) [0] ⟨rfl,⟨⟩⟩ (.agg A.lit) [.row aw 3 1 57 (λ_=>B.lit),.row 0 5 1 26 (λ_=>[.int .i64 0,.int .i64 0,.str [],.int .i64 0,.aD]),.row 0 5 1 26 (λ_=>[.int .i64 m,.int .i64 n,.str o,.int .i64 q,sl 8 af.cells t])] ⟨rfl,(bk h λk S h=>(dS (Jv S) ⟨rfl,_,λ_=>[.int .i64 k.aj,.int .i64 k.ao,.str k.aq,.int .i64 k.ak,sl 8 af.cells k.ae],rfl,aB rfl,(lg (M _ _ _ _ _ _ _ _ _ _ h rfl) (tk [0,1,2] ⟨.p,.p,.p,.i,⟨⟩⟩ ⟨(oA rfl),(nb rfl ⟨.i,.i,.s,.i,.aD,⟨⟩⟩),(ed rfl),⟨⟩⟩))⟩))⟩;exact ct ⟨_,_,_,_,_,_,_,_,si h,rfl,rfl⟩ (tk [0,1,2] ⟨.p,.p,.p,⟨⟩⟩ ⟨(oA rfl),(nb rfl ⟨.i,.i,.s,.i,.aD,⟨⟩⟩),(ed rfl),⟨⟩⟩);rintro _ _ ⟨v,w,x,a,b,c,e,f,rfl,rfl,rfl⟩;replace h:=K;refine .d (.d ?_);obtain⟨⟨C,T⟩,U,h⟩:=bd h;refine gl (pI (aw:=aw) U) [0] ⟨rfl,⟨⟩⟩ (.bool C) [.row aw 3 1 57 (λ_=>T.lit),.row 0 5 1 26 (λ_=>[.int .i64 0,.int .i64 0,.str [],.int .i64 0,.aD]),.row 0 5 1 26 (λ_=>[.int .i64 a,.int .i64 b,.str c,.int .i64 e,sl 8 af.cells f])] (sV h (λV h=>?_) (λV h=>?_));refine .d ?_;obtain⟨⟨g,W⟩,X,h⟩:=bd h;refine gl (MW (aw:=aw) X) [0] ⟨rfl,⟨⟩⟩ (.agg g.lit) [.row aw 3 1 57 (λ_=>W.lit),.row 0 5 1 26 (λ_=>[.int .i64 0,.int .i64 0,.str [],.int .i64 0,.aD]),.row 0 5 1 26 (λ_=>[.int .i64 a,.int .i64 b,.str c,.int .i64 e,sl 8 af.cells f])] ⟨rfl,_,λ_=>[.int .i64 g.aj,.int .i64 g.ao,.str g.aq,.int .i64 g.ak,sl 8 af.cells g.ae],rfl,aB rfl,?_⟩;exact Uf;refine .d ⟨rfl,_,rfl,⟨rfl,_,λ_=>[.int .i64 a,.int .i64 b,.str c,.int .i64 e,sl 8 af.cells f],rfl,aB rfl,?_⟩⟩;exact Uf
set_option maxRecDepth 100000
def dc (b:List UInt8) (c:Int) (d:Int) (e:List az) (f:Int):Option ((List UInt8)×Int×Int×(List az)):=if f>0 then zn (aF.mk b c d)>>=λ(g,a)=>eg 32 e ([g]:List az)>>=λh=>dc a.fB a.fI a.fH h (bc (f - 1))else some (b,c,d,e) partial_fixpoint
def gV (b:aF) (c:Int):Option ((List az)×aF):=(pf b (bc (c+1))>>=λ(d,a)=>dc a.fB a.fI a.fH ([]:List az) d:Option ((List UInt8)×Int×Int×(List az)))>>=λ(e,f,g,h)=>some (h,(aF.mk e f g))
theorem tB {q:aF} {s:Int} {r:(List az)×aF} {aw:Nat} (h:gV q s=some r):ACall Tryd.prog 13 [.aH 0 aw 0 0,.int .i64 s] [.row aw 3 1 57 (λ_=>q.lit)] (λres h=>res=sl 3 az.cells r.1/\h=[.row aw 3 1 57 (λ_=>r.2.lit)]):=by
 refine gD Tryd.func13 ?_;unfold gV at h;refine .d (.d ⟨row az.cells ([]:List az),cA az.cells ([]:List az) rfl (cU rfl),?_⟩);obtain⟨f,A,B⟩:=bd h;replace h:=A;refine .cut (λσ η=>∃g,∃j,∃k,∃b,(g,j,k,b)=f/\σ=[(5,.own 1 0 0 b.length)]/\η=[.row aw 3 1 57 (λ_=>[sl 1 cB g,.int .i64 j,.int .i64 k]),.row 0 3 b.length 37 (row az.cells b)]) ?_ ?_;refine .d ?_;obtain⟨⟨t,c⟩,C,h⟩:=bd h;refine gl (nd (aw:=aw) C) [0] ⟨rfl,⟨⟩⟩ (.int .i64 t) [.row aw 3 1 57 (λ_=>c.lit),.row 0 3 ([]:List az).length 37 (row az.cells ([]:List az))] ?_;refine le (dc.partial_correctness  (motive:=λu v w a x y=>f=y->a7 _ _ [(0,.aH 0 aw 0 0),(5,.own 1 0 0 a.length),(6,.int .i64 x)] [.row aw 3 1 57 (λ_=>[sl 1 cB u,.int .i64 v,.int .i64 w]),.row 0 3 a.length 37 (row az.cells a)]) ?_ c.fB c.fI c.fH ([]:List az) t f h rfl) (tk [0,1] ⟨.p,.o,.i,⟨⟩⟩ ⟨(oA rfl),nw,⟨⟩⟩);intro H D u v w a x y h E;subst E;refine a7.round (.d (.d (sD h (λF h=>?_) (λF h=>?_))));refine .d ?_;obtain⟨⟨e,m⟩,G,h⟩:=bd h;exact gl (Be (aw:=aw) G) [0] ⟨rfl,⟨⟩⟩ (.agg e.lit) [.row aw 3 1 57 (λ_=>m.lit),.row 0 3 a.length 37 (row az.cells a)] ⟨row az.cells ([e]:List az),cA az.cells ([e]:List az) rfl (cU rfl),(bk h λz n h=>(.fG ⟨rfl,rfl,kb (l:=([e]:List az)) aS,dV n,z.length,row az.cells z,dw n,dE n aS (ik aS),(lg (D _ _ _ _ _ _ h rfl) (tk [0,1] ⟨.p,.o,.i,⟨⟩⟩ ⟨(oA rfl),nw,⟨⟩⟩))⟩))⟩;exact ct ⟨_,_,_,_,si h,rfl,rfl⟩ (tk [0,1] ⟨.o,⟨⟩⟩ ⟨(oA rfl),nw,⟨⟩⟩);rintro _ _ ⟨g,j,k,b,rfl,rfl,rfl⟩;replace h:=B;refine .d ?_;obtain rfl:=si h;exact en [0] ⟨rfl,rfl⟩ .r ⟨(ob rfl ⟨.l,.i,.i,⟨⟩⟩),⟨⟩⟩
def cc (a:aF) (d:Int) (e:Int) (f:cR) (g:Int) (h:List af) (c:Int):Option ((List UInt8)×Int×Int×Int×Int×cR×Int×(List af)):=if c<150 then GM (ai.mk d e f g h) (az.mk false c []) (ai.mk 0 0 [] 0 [])>>=λb=>cc a b.aj b.ao b.aq b.ak b.ae (bc (c+1))else some (a.fB,a.fI,a.fH,d,e,f,g,h) partial_fixpoint
def dX (m:List UInt8):Option (ai×(List az)×Bool×ai):=JJ m>>=λn=>IJ n>>=λ(a,o)=>gV o 3>>=λ(k,p)=>(om p 9>>=λ(c,b)=>(if c then cc b a.aj a.ao a.aq a.ak a.ae 0 else some (b.fB,b.fI,b.fH,a.aj,a.ao,a.aq,a.ak,a.ae)):Option ((List UInt8)×Int×Int×Int×Int×cR×Int×(List af)))>>=λ(q,r,s,d,e,f,g,h)=>IJ (aF.mk q r s)>>=λ(i,t)=>om t 9>>=λ(j,l)=>if j then om l 3>>=λ(u,w)=>some ((ai.mk d e f g h),k,u,(ai.mk d e f g h))else om l 3>>=λ(v,x)=>some ((ai.mk d e f g h),k,v,i)
theorem oD {y:List UInt8} {r:ai×(List az)×Bool×ai} (h:dX y=some r):ACall Tryd.prog 5 [sl 1 cB y] [] (λres h=>res=.db [.agg r.1.lit,sl 3 az.cells r.2.1,.bool r.2.2.1,.agg r.2.2.2.lit]/\h=[]):=by
 refine gD Tryd.func5 ?_;unfold dX at h;refine .d (.d (bk h λG H h=>(PQ (M9 H) (.aH 2 0 0 0) [.row 0 5 1 26 (λ_=>[.int .i64 0,.int .i64 0,.str [],.int .i64 0,.aD]),.row 0 5 1 26 (λ_=>[.int .i64 0,.int .i64 0,.str [],.int .i64 0,.aD]),.row 0 3 1 57 (λ_=>G.lit)] (.d ?_))));obtain⟨⟨c,I⟩,J,h⟩:=bd h;refine gl (JE (aw:=0) J) [2] ⟨rfl,⟨⟩⟩ (.agg c.lit) [.row 0 5 1 26 (λ_=>[.int .i64 0,.int .i64 0,.str [],.int .i64 0,.aD]),.row 0 5 1 26 (λ_=>[.int .i64 0,.int .i64 0,.str [],.int .i64 0,.aD]),.row 0 3 1 57 (λ_=>I.lit)] ⟨rfl,_,λ_=>[.int .i64 c.aj,.int .i64 c.ao,.str c.aq,.int .i64 c.ak,sl 8 af.cells c.ae],rfl,aB rfl,(.d ?_)⟩;obtain⟨⟨o,K⟩,L,h⟩:=bd h;refine gl (tB (aw:=0) L) [2] ⟨rfl,⟨⟩⟩ (sl 3 az.cells o) [.row 0 5 1 26 (λ_=>[.int .i64 0,.int .i64 0,.str [],.int .i64 0,.aD]),.row 0 5 1 26 (λ_=>[.int .i64 0,.int .i64 0,.str [],.int .i64 0,.aD]),.row 0 3 1 57 (λ_=>K.lit),.row 0 5 1 26 (λ_=>c.lit)] ?_;obtain⟨q,M,N⟩:=bd h;replace h:=M;refine .cut (λσ η=>∃t,∃u,∃v,∃e,∃f,∃g,∃j,∃k,(t,u,v,e,f,g,j,k)=q/\σ=[(2,.aH 0 0 0 0),(5,.aH 1 0 0 0),(6,.aH 2 0 0 0),(7,.aH 3 0 0 0),(8,sl 3 az.cells o)]/\η=[.row 0 5 1 26 (λ_=>[.int .i64 0,.int .i64 0,.str [],.int .i64 0,.aD]),.row 0 5 1 26 (λ_=>[.int .i64 0,.int .i64 0,.str [],.int .i64 0,.aD]),.row 0 3 1 57 (λ_=>[sl 1 cB t,.int .i64 u,.int .i64 v]),.row 0 5 1 26 (λ_=>[.int .i64 e,.int .i64 f,.str g,.int .i64 j,sl 8 af.cells k])]) ?_ ?_;refine .d ?_;obtain⟨⟨w,m⟩,O,h⟩:=bd h;refine gl (pI (aw:=0) O) [2] ⟨rfl,⟨⟩⟩ (.bool w) [.row 0 5 1 26 (λ_=>[.int .i64 0,.int .i64 0,.str [],.int .i64 0,.aD]),.row 0 5 1 26 (λ_=>[.int .i64 0,.int .i64 0,.str [],.int .i64 0,.aD]),.row 0 3 1 57 (λ_=>m.lit),.row 0 5 1 26 (λ_=>c.lit)] (sV h (λP h=>?_) (λP h=>?_));refine .d ?_;refine le (cc.partial_correctness m (motive:=λz A B C D E F=>q=F->a7 _ _ [(2,.aH 0 0 0 0),(5,.aH 1 0 0 0),(6,.aH 2 0 0 0),(7,.aH 3 0 0 0),(8,sl 3 az.cells o),(9,.int .i64 E)] [.row 0 5 1 26 (λ_=>[.int .i64 0,.int .i64 0,.str [],.int .i64 0,.aD]),.row 0 5 1 26 (λ_=>[.int .i64 0,.int .i64 0,.str [],.int .i64 0,.aD]),.row 0 3 1 57 (λ_=>m.lit),.row 0 5 1 26 (λ_=>[.int .i64 z,.int .i64 A,.str B,.int .i64 C,sl 8 af.cells D])]) ?_ c.aj c.ao c.aq c.ak c.ae 0 q h rfl) (tk [0,1,2,3] ⟨.p,.p,.p,.p,.l,.i,⟨⟩⟩ ⟨(nb rfl ⟨.i,.i,.s,.i,.aD,⟨⟩⟩),(nb rfl ⟨.i,.i,.s,.i,.aD,⟨⟩⟩),(ed rfl),(ed rfl),⟨⟩⟩);intro PR Q z A B C D E F h R;subst R;refine a7.round (.d (.d (sD h (λS h=>?_) (λS h=>?_))));exact .d ⟨rfl,_,rfl,(bk h λn T h=>(dS (ACall.JL (Jv T) ⟨.same _,.same _,.agg ⟨.same _,.same _,.same _,.same _,.nil _ _,⟨⟩⟩,⟨⟩⟩) ⟨rfl,_,λ_=>[.int .i64 n.aj,.int .i64 n.ao,.str n.aq,.int .i64 n.ak,sl 8 af.cells n.ae],rfl,aB rfl,(lg (Q _ _ _ _ _ _ _ h rfl) (tk [0,1,2,3] ⟨.p,.p,.p,.p,.l,.i,⟨⟩⟩ ⟨(nb rfl ⟨.i,.i,.s,.i,.aD,⟨⟩⟩),(nb rfl ⟨.i,.i,.s,.i,.aD,⟨⟩⟩),(ed rfl),(ed rfl),⟨⟩⟩))⟩))⟩;exact ct ⟨_,_,_,_,_,_,_,_,si h,rfl,rfl⟩ (tk [0,1,2,3] ⟨.p,.p,.p,.p,.l,⟨⟩⟩ ⟨(nb rfl ⟨.i,.i,.s,.i,.aD,⟨⟩⟩),(nb rfl ⟨.i,.i,.s,.i,.aD,⟨⟩⟩),(ed rfl),(ed rfl),⟨⟩⟩);exact ct ⟨_,_,_,_,_,_,_,_,si h,rfl,rfl⟩ (tk [0,1,2,3] ⟨.p,.p,.p,.p,.l,⟨⟩⟩ ⟨(nb rfl ⟨.i,.i,.s,.i,.aD,⟨⟩⟩),(nb rfl ⟨.i,.i,.s,.i,.aD,⟨⟩⟩),(ed rfl),(ed rfl),⟨⟩⟩);rintro _ _ ⟨t,u,v,e,f,g,j,k,rfl,rfl,rfl⟩;replace h:=N;refine .d ?_;obtain⟨⟨a,U⟩,V,h⟩:=bd h;refine gl (JE (aw:=0) V) [2] ⟨rfl,⟨⟩⟩ (.agg a.lit) [.row 0 5 1 26 (λ_=>[.int .i64 0,.int .i64 0,.str [],.int .i64 0,.aD]),.row 0 5 1 26 (λ_=>[.int .i64 0,.int .i64 0,.str [],.int .i64 0,.aD]),.row 0 3 1 57 (λ_=>U.lit),.row 0 5 1 26 (λ_=>[.int .i64 e,.int .i64 f,.str g,.int .i64 j,sl 8 af.cells k])] ⟨rfl,_,λ_=>[.int .i64 a.aj,.int .i64 a.ao,.str a.aq,.int .i64 a.ak,sl 8 af.cells a.ae],rfl,aB rfl,(.d (.d ?_))⟩;obtain⟨⟨x,W⟩,X,h⟩:=bd h;refine gl (pI (aw:=0) X) [2] ⟨rfl,⟨⟩⟩ (.bool x) [.row 0 5 1 26 (λ_=>[.int .i64 0,.int .i64 0,.str [],.int .i64 0,.aD]),.row 0 5 1 26 (λ_=>[.int .i64 0,.int .i64 0,.str [],.int .i64 0,.aD]),.row 0 3 1 57 (λ_=>W.lit),.row 0 5 1 26 (λ_=>[.int .i64 e,.int .i64 f,.str g,.int .i64 j,sl 8 af.cells k]),.row 0 5 1 26 (λ_=>a.lit)] (sV h (λY h=>?_) (λY h=>?_));refine⟨rfl,_,rfl,⟨rfl,_,λ_=>[.int .i64 e,.int .i64 f,.str g,.int .i64 j,sl 8 af.cells k],rfl,aB rfl,(.d (.float [(0,true),(1,true),(2,true),(4,true),(3,false),(5,false),(6,true),(7,true),(8,false)] UR ?_))⟩⟩;refine⟨rfl,_,rfl,⟨rfl,_,rfl,?_⟩⟩;obtain⟨⟨Z,sd⟩,Ha,h⟩:=bd h;refine gl (pI (aw:=0) Ha) [2] ⟨rfl,⟨⟩⟩ (.bool Z) [.row 0 5 1 26 (λ_=>[.int .i64 0,.int .i64 0,.str [],.int .i64 0,.aD]),.row 0 5 1 26 (λ_=>[.int .i64 0,.int .i64 0,.str [],.int .i64 0,.aD]),.row 0 3 1 57 (λ_=>sd.lit),.row 0 5 1 26 (λ_=>[.int .i64 e,.int .i64 f,.str g,.int .i64 j,sl 8 af.cells k]),.row 0 5 1 26 (λ_=>[.int .i64 e,.int .i64 f,.str g,.int .i64 j,sl 8 af.cells k])] ⟨rfl,⟨rfl,⟨rfl,_,λ_=>[.int .i64 e,.int .i64 f,.str g,.int .i64 j,sl 8 af.cells k],rfl,aB rfl,⟨rfl,⟨rfl,_,λ_=>[.int .i64 e,.int .i64 f,.str g,.int .i64 j,sl 8 af.cells k],rfl,aB rfl,?_⟩⟩⟩⟩⟩;obtain rfl:=si h;exact⟨rfl,_,rfl,⟨rfl,_,rfl,(en [] ⟨rfl,rfl⟩ (.dm ⟨.aM ⟨.i,.i,.s,.i,.l,⟨⟩⟩,.l,.b,.aM ⟨.i,.i,.s,.i,.l,⟨⟩⟩,⟨⟩⟩) ⟨⟩)⟩⟩;refine .d (.float [(0,true),(1,true),(2,true),(4,true),(3,false),(5,false),(6,true),(7,true),(8,false)] UR ?_);refine⟨rfl,_,rfl,⟨rfl,_,rfl,?_⟩⟩;obtain⟨⟨G9,pW⟩,wP,h⟩:=bd h;refine gl (pI (aw:=0) wP) [2] ⟨rfl,⟨⟩⟩ (.bool G9) [.row 0 5 1 26 (λ_=>[.int .i64 0,.int .i64 0,.str [],.int .i64 0,.aD]),.row 0 5 1 26 (λ_=>[.int .i64 0,.int .i64 0,.str [],.int .i64 0,.aD]),.row 0 3 1 57 (λ_=>pW.lit),.row 0 5 1 26 (λ_=>[.int .i64 e,.int .i64 f,.str g,.int .i64 j,sl 8 af.cells k]),.row 0 5 1 26 (λ_=>a.lit)] ⟨rfl,⟨rfl,⟨rfl,_,λ_=>[.int .i64 e,.int .i64 f,.str g,.int .i64 j,sl 8 af.cells k],rfl,aB rfl,⟨rfl,⟨rfl,_,λ_=>[.int .i64 a.aj,.int .i64 a.ao,.str a.aq,.int .i64 a.ak,sl 8 af.cells a.ae],rfl,aB rfl,?_⟩⟩⟩⟩⟩;obtain rfl:=si h;exact⟨rfl,_,rfl,⟨rfl,_,rfl,(en [] ⟨rfl,rfl⟩ (.dm ⟨.aM ⟨.i,.i,.s,.i,.l,⟨⟩⟩,.l,.b,.aM ⟨.i,.i,.s,.i,.l,⟨⟩⟩,⟨⟩⟩) ⟨⟩)⟩⟩
set_option maxRecDepth 100000
def de (a:List az) (b:Int):Option ((Unit) ⊕ Bool):=if b<(a.length:Int)then idx a b>>=λd=>E2 d>>=λc=>if c then de a (bc (b+1))else some (.inr false)else some (.inl ()) partial_fixpoint
def gW (a:List az):Option (Bool):=((de a 0:Option ((Unit) ⊕ Bool))>>=λo1=>match o1 with | .inr r=>some r | .inl _=>some true)
theorem tC {a:List az} {r:Bool} (h:gW a=some r):ACall Tryd.prog 17 [sl 3 az.cells a] [] (λres h=>res=.bool r/\h=[]):=by
 refine gD Tryd.func17 ?_;unfold gW at h;refine .d ?_;obtain⟨o1,g,tt⟩:=bd h;replace h:=g;refine .cut (λσ η=>.inl ()=o1/\σ=[]/\η=[]) ?_ ?_;refine .d ?_;refine le (de.partial_correctness a (motive:=λc e=>o1=e->a7 _ _ [(5,sl 3 az.cells a),(6,.int .i64 (a.length:Int)),(7,.int .i64 c)] []) ?_ 0 o1 h rfl) (tk [] ⟨.l,.i,.i,⟨⟩⟩ ⟨⟩);intro q j c e h k;subst k;refine a7.round (.d (.d (sD h (λm h=>?_) (λm h=>?_))));refine .d (.d (bk h λb f h=>⟨bP f,_,(bx f).trans (az.aO b),⟨rfl,_,λ_=>[.bool b.av,.int .i64 b.ao,.str b.aq],rfl,aB rfl,(.d ⟨rfl,_,rfl,(bk h λn o h=>(dS (Jq o) (mR h (λp h=>?_) (λp h=>?_))))⟩)⟩⟩));refine .d ?_;exact T9;exact lg (j _ _ h rfl) (tk [] ⟨.l,.i,.i,⟨⟩⟩ ⟨⟩);exact Uw;rintro _ _ ⟨rfl,rfl,rfl⟩;exact .d (eB tt)
def cH (c:List az) (f:Int) (g:Int) (h:cR) (i:Int) (d:List af) (e:Int):Option ((Int×Int×cR×Int×(List af)) ⊕ (ai×Bool)):=if e<(c.length:Int)then idx c e>>=λj=>se (ai.mk f g h i d) j>>=λa=>if a<0 then some (.inr ((ai.mk 0 0 [] 0 []),false))else idx d a>>=λb=>cH c b.ah.aj b.ah.ao b.ah.aq b.ah.ak b.ah.ae (bc (e+1))else some (.inl (f,g,h,i,d)) partial_fixpoint
def cZ (a:ai) (b:List az):Option (ai×Bool):=((cH b a.aj a.ao a.aq a.ak a.ae 0:Option ((Int×Int×cR×Int×(List af)) ⊕ (ai×Bool)))>>=λc=>match c with | .inr r=>some r | .inl (d,e,f,g,h)=>we (ai.mk d e f g h)>>=λi=>some (i,true))
theorem kc {a:ai} {e:List az} {r:ai×Bool} (h:cZ a e=some r):ACall Tryd.prog 9 [.agg a.lit,sl 3 az.cells e] [] (λres h=>res=.db [.agg r.1.lit,.bool r.2]/\h=[]):=by
 refine gD Tryd.func9 ?_;unfold cZ at h;refine .d ?_;obtain⟨j,E,t⟩:=bd h;replace h:=E;refine .cut (λσ η=>∃k,∃m,∃n,∃o,∃q,.inl (k,m,n,o,q)=j/\σ=[(2,.aH 0 0 0 0),(4,.aH 1 0 0 0)]/\η=[.row 0 5 1 26 (λ_=>[.int .i64 k,.int .i64 m,.str n,.int .i64 o,sl 8 af.cells q]),.row 0 5 1 26 (λ_=>[.int .i64 0,.int .i64 0,.str [],.int .i64 0,.aD])]) ?_ ?_;refine .d ?_;refine le (cH.partial_correctness e (motive:=λu v w x y A B=>j=B->a7 _ _ [(2,.aH 0 0 0 0),(4,.aH 1 0 0 0),(9,sl 3 az.cells e),(10,.int .i64 (e.length:Int)),(11,.int .i64 A)] [.row 0 5 1 26 (λ_=>[.int .i64 u,.int .i64 v,.str w,.int .i64 x,sl 8 af.cells y]),.row 0 5 1 26 (λ_=>[.int .i64 0,.int .i64 0,.str [],.int .i64 0,.aD])]) ?_ a.aj a.ao a.aq a.ak a.ae 0 j h rfl) (tk [0,1] ⟨.p,.p,.l,.i,.i,⟨⟩⟩ ⟨(ed rfl),(nb rfl ⟨.i,.i,.s,.i,.aD,⟨⟩⟩),⟨⟩⟩);intro M F u v w x y A B h G;subst G;refine a7.round (.d (.d (sD h (λH h=>?_) (λH h=>?_))));refine .d (.d (bk h λg C h=>⟨bP C,_,(bx C).trans (az.aO g),⟨rfl,_,λ_=>[.bool g.av,.int .i64 g.ao,.str g.aq],rfl,aB rfl,(.d ⟨rfl,_,rfl,⟨rfl,_,rfl,(bk h λI J h=>(dS (rN J) (.d (.d (sD h (λK h=>?_) (λK h=>?_))))))⟩⟩)⟩⟩));refine .d (dS (ia) ⟨rfl,_,λ_=>[.int .i64 0,.int .i64 0,.str [],.int .i64 0,.aD],rfl,aB rfl,?_⟩);obtain rfl:=si h;obtain rfl:=si t;exact⟨rfl,_,rfl,(en [] ⟨rfl,rfl⟩ (.dm ⟨.aM ⟨.i,.i,.s,.i,.z,⟨⟩⟩,.b,⟨⟩⟩) ⟨⟩)⟩;exact⟨rfl,⟨rfl,_,rfl,(bk h λc D h=>⟨bP D,_,(bx D).trans (af.aO c),⟨rfl,_,λ_=>[.int .i64 c.ah.aj,.int .i64 c.ah.ao,.str c.ah.aq,.int .i64 c.ah.ak,sl 8 af.cells c.ah.ae],rfl,aB rfl,(lg (F _ _ _ _ _ _ _ h rfl) (tk [0,1] ⟨.p,.p,.l,.i,.i,⟨⟩⟩ ⟨(ed rfl),(nb rfl ⟨.i,.i,.s,.i,.aD,⟨⟩⟩),⟨⟩⟩))⟩⟩)⟩⟩;exact ct ⟨_,_,_,_,_,si h,rfl,rfl⟩ (tk [0,1] ⟨.p,.p,⟨⟩⟩ ⟨(ed rfl),(nb rfl ⟨.i,.i,.s,.i,.aD,⟨⟩⟩),⟨⟩⟩);rintro _ _ ⟨k,m,n,o,q,rfl,rfl,rfl⟩;refine .d ⟨rfl,_,rfl,(bk t λf L h=>(dS (wF L) ⟨rfl,_,λ_=>[.int .i64 f.aj,.int .i64 f.ao,.str f.aq,.int .i64 f.ak,sl 8 af.cells f.ae],rfl,aB rfl,?_⟩))⟩;obtain rfl:=si h;exact⟨rfl,_,rfl,(en [] ⟨rfl,rfl⟩ (.dm ⟨.aM ⟨.i,.i,.s,.i,.l,⟨⟩⟩,.b,⟨⟩⟩) ⟨⟩)⟩
end Go.Am
namespace Go.Am
open Go Go.RowKit
section
variable {P:Program}{f:FuncId}{h:List au}{K:PV->List au->Prop}
end
theorem Hc {P:Program} {f:FuncId} {args:List PV} {h:List au} {K:PV->List au->Prop} (id i j sub:Nat) (h1:(Nat->Prop)->List au) (ha:∀F,tD h id i j sub F (h1 F)) (k:∀F,kY P f args (h1 F) K):kY P f args h K:=by
 have a:∀F,ACall P f args (h1 F) K:=λF=>by
  obtain⟨R,a,hk⟩:=k F;exact a.mono hk
 refine⟨K,⟨(a (λ_=>False)).1,λw vs μ S e b dp g=>?_⟩,λ_ _ h=>h⟩;obtain⟨c,d⟩:=tE (w:=w) ⟨e,b⟩ (ha (IP μ h sub));refine((a (IP μ h sub)).2 w vs μ S d.heap d.ok dp (λj pv hj=>?_)).mono ?_
 ·obtain⟨v,l,m⟩:=g j pv hj;exact⟨v,l,m.fr c b⟩
 ·rintro x w' ⟨v,res,h',μ',S',rfl,n,hv,o,p,q⟩;exact⟨v,res,h',μ',S',rfl,n,hv,o,p,c.trans q⟩
theorem w5 {f:Nat->List PV} {b a cs:List PV} (hc:gE a cs) (c:b.length=a.length:=by rfl):∀j,j<1->gE (ax f 0 (bY b 0 a) j) (ax (λ_=>[]) 0 cs j):=by
 intro j hj;obtain rfl:j=0:=by omega
 rw[aA,aA];have:bY b 0 a=a:=kZ a [] b c;rw[this];exact hc
def DO {α:Type} (c:α->List PV):List PV->α->Prop:=λcs x=>pJ cs (c x)
instance {α:Type} (c:α->List PV):yh (DO c) c:=⟨λ_ _ h=>h⟩
theorem Hd {α:Type} {D:List PV->α->Prop} {c:α->List PV} [hc:yh D c] {h η:List au} {k:List Nat} {m i id g o sz n a I:Nat} {e:TypeId} {f:Nat->List PV} {l:List α} {cs:List PV} (d:DR D n f l) (F:mo h η k cs cs) (p:a=n:=by first | rfl | simp [*]) (hi:Nat.ble m i=true:=by rfl)
  (q:h[id]? =some (au.row g sz a e (ax f I cs)):=by rfl):mT h η k m (.row o sz a e (ax f I cs)) i id:=by
 subst p;unfold mT;rw[q];refine⟨λh0=>absurd h0 (Nat.not_lt.2 (SI hi)),rfl,.inl rfl,rfl,λj hj=>?_⟩;by_cases b:j=I
 ·subst b;rw[aA];exact F
 ·rw[dD b];exact tF (d.po (c:=c) j hj)
theorem DR.shift {α:Type} {D:List PV->α->Prop} {n b:Nat} {f:Nat->List PV} {l x y q:List α} {i j:Int} (d:DR D n f l) (h1:uP l i=some x) (h2:jj l j=some y) (a:eg b x y=some q):DR D (x.length+y.length) (He f x.length (λk=>f (0+j.toNat+k))) q:=by
 have o:=d.len;have p:=tG h1;have r:=jP h2;have g:l.take i.toNat=x:=(bU h1).2;have h:l.drop j.toNat=y:=(bU h2).2;have m:x++y=q:=(bU a).2;have s:=p3 h1;have t:=iz h2;subst m;refine⟨by simp,λk hk=>?_,λk hk=>?_⟩
 ·by_cases c:k<x.length
  ·have hb:Nat.blt k x.length=true:=by simpa using c
   show D (bif Nat.blt k x.length then f k else f (0+j.toNat+(k - x.length))) _;rw[hb,Tv c];have e:x[k]=l[k]'UN:=by simp only[<-g,TO]
   rw[e];exact d.at_ k UN
  ·have hb:Nat.blt k x.length=false:=by
    cases hq:Nat.blt k x.length with
    | true=>exact(c (by simpa using hq)).elim
    | false=>rfl
   show D (bif Nat.blt k x.length then f k else f (0+j.toNat+(k - x.length))) _;rw[TM]at hk;rw[hb,TJ UN];have e:y[k - x.length]'UN=l[0+j.toNat+(k - x.length)]'UN:=by simp only[<-h,List.getElem_drop,Sx]
   rw[e];exact d.at_ _ UN
 ·have hb:Nat.blt k x.length=false:=Bool.eq_false_iff.2 (λhq=>absurd (show k<x.length by simpa using hq) UN);show(bif Nat.blt k x.length then f k else f (0+j.toNat+(k - x.length)))=[];rw[hb];exact d.z _ UN
end Go.Am
set_option maxRecDepth 100000
namespace Go.Am
open Go Go.RowKit Go.Proofs
mutual
def rO (a:ai):Option (ai):=(kd a ([]:List af) ([]:List af) 0:Option ((List af)×(List af)))>>=λ(c,b)=>some (ai.mk a.aj a.ao a.aq a.ak b) partial_fixpoint
def kd (b:ai) (a:List af) (d:List af) (c:Int):Option ((List af)×(List af)):=if c<(b.ae.length:Int)then idx b.ae c>>=λe=>rO e.ah>>=λf=>eg 96 d [(af.mk e.ar f)]>>=λg=>kd b a g (bc (c+1))else some (a,d) partial_fixpoint
end
def tH (b:ai) (r:ai):Prop:=ACall Tryd.prog 18 [.agg b.lit] [] (λres h=>∃a:Nat->List PV,DR af.D r.ae.length a r.ae/\res=.agg [.int .i64 r.aj,.int .i64 r.ao,.str r.aq,.int .i64 r.ak,.own 0 0 0 r.ae.length]/\h=[.row 0 8 r.ae.length 51 a])
inductive gH:ai->(List af)->(List af)->Int->((List af)×(List af))->Prop
 | mk (AE:ai->Option (ai)) (Ga:∀a0 r,AE a0=some r->tH a0 r) (iA:ai->(List af)->(List af)->Int->Option ((List af)×(List af))) (w6:∀a0 l10 fZ jJ o,iA a0 l10 fZ jJ=some o->gH a0 l10 fZ jJ o) (a0:ai) (l10:List af) (fZ:List af) (jJ:Int) (o:(List af)×(List af)) (h:(
 (if jJ<(a0.ae.length:Int)then
 idx a0.ae jJ>>=λeU=>
 AE eU.ah>>=λbI=>
 eg 96 fZ [(af.mk eU.ar bI)]>>=λdF=>
 iA a0 l10 dF (bc (jJ+1))
 else
 some (l10,fZ))
 )=some o):gH a0 l10 fZ jJ o
theorem uQ {motive:ai->(List af)->(List af)->Int->((List af)×(List af))->Prop} (step:∀(f:ai->Option (ai)) (k:∀b r,f b=some r->tH b r) (e:ai->(List af)->(List af)->Int->Option ((List af)×(List af))) (l:∀b a d c o,e b a d c=some o->gH b a d c o) (b:ai) (a:List af) (d:List af) (c:Int) (o:(List af)×(List af)) (h:(
 (if c<(b.ae.length:Int)then
 idx b.ae c>>=λg=>
 f g.ah>>=λi=>
 eg 96 d [(af.mk g.ar i)]>>=λj=>
 e b a j (bc (c+1))
 else
 some (a,d))
 )=some o) (m:∀b a d c o,e b a d c=some o->motive b a d c o),motive b a d c o):∀b a d c o,gH b a d c o->motive b a d c o:=
 λb a d c o h=>gH.rec (motive:=λb a d c o _=>motive b a d c o) step h
theorem DJ:(∀b r,rO b=some r->tH b r)/\(∀b e k v o,kd b e k v=some o->gH b e k v o):=by
 refine rO.mutual_partial_correctness tH gH ?_ ?_;intro _ K b r h;refine gD Tryd.func18 ?_;refine .d (.d ⟨rfl,_,rfl,⟨rfl,_,λ_=>[.int .i64 b.aj,.int .i64 b.ao,.str b.aq,.int .i64 b.ak,sl 8 af.cells b.ae],rfl,aB rfl,(.d ⟨rfl,⟨rfl,_,λ_=>[.int .i64 b.aj,.int .i64 b.ao,.str b.aq,.int .i64 b.ak,.aD],rfl,aB rfl,?_⟩⟩)⟩⟩);obtain⟨F,L,M⟩:=bd h;replace h:=L;refine .cut (λσ η=>∃z,∃w,∃G:Nat->List PV,∃E:Nat->List PV,DR af.D z.length G z/\DR af.D w.length E w/\(z,w)=F/\σ=[(2,.aH 0 0 0 0),(3,.aH 2 0 0 0)]/\η=[.row 0 5 1 26 (λ_=>[.int .i64 0,.int .i64 0,.str [],.int .i64 0,.own 1 0 0 z.length]),.row 0 8 z.length 51 G,.row 0 5 1 26 (λ_=>[.int .i64 b.aj,.int .i64 b.ao,.str b.aq,.int .i64 b.ak,.own 3 0 0 w.length]),.row 0 8 w.length 51 E]) ?_ ?_;refine .d ⟨rfl,⟨rfl,_,rfl,?_⟩⟩;have N:=K _ _ _ _ _ h;refine le (uQ (motive:=λH e k v I=>∀n:Nat->List PV,∀f:Nat->List PV,DR af.D e.length n e->DR af.D k.length f k->b=H->F=I->a7 _ _ [(2,.aH 0 0 0 0),(3,.aH 2 0 0 0),(9,sl 8 af.cells b.ae),(10,.int .i64 (b.ae.length:Int)),(11,.int .i64 v)] [.row 0 5 1 26 (λ_=>[.int .i64 0,.int .i64 0,.str [],.int .i64 0,.own 1 0 0 e.length]),.row 0 8 e.length 51 n,.row 0 5 1 26 (λ_=>[.int .i64 b.aj,.int .i64 b.ao,.str b.aq,.int .i64 b.ak,.own 3 0 0 k.length]),.row 0 8 k.length 51 f]) ?_ b ([]:List af) ([]:List af) 0 F N (λ_=>[]) (λ_=>[]) ((DR.nil (D:=af.D)).self) ((DR.nil (D:=af.D)).self) rfl rfl) (tk [1,4,2,6] ⟨.p,.p,.l,.i,.i,⟨⟩⟩ ⟨(nb rfl ⟨.i,.i,.s,.i,.g,⟨⟩⟩),gh,(nb rfl ⟨.i,.i,.s,.i,.g,⟨⟩⟩),gh,⟨⟩⟩);intro _ O _ _ H e k v I h P n f m j Q R;subst Q;subst R;refine a7.round (.d (.d (sD h (λS h=>?_) (λS h=>?_))));refine .d (.d (bk h λc J h=>⟨bP J,_,(bx J).trans (af.aO c),⟨rfl,_,λ_=>[.bool c.ar.av,.int .i64 c.ar.ao,.str c.ar.aq,.int .i64 c.ah.aj,.int .i64 c.ah.ao,.str c.ah.aq,.int .i64 c.ah.ak,sl 8 af.cells c.ah.ae],rfl,aB rfl,(.float [(0,true),(1,true),(2,true),(3,true),(4,true),(5,true),(6,false),(7,true),(8,false),(9,false),(10,true),(11,false)] UR ?_)⟩⟩));refine⟨rfl,⟨rfl,_,rfl,⟨rfl,⟨rfl,_,rfl,⟨rfl,⟨rfl,_,rfl,(bk h λa T h=>(Bo (O _ _ T) ?_))⟩⟩⟩⟩⟩⟩;rintro _ _ ⟨q,y,rfl,rfl⟩;refine⟨.agg [.int .i64 a.aj,.int .i64 a.ao,.str a.aq,.int .i64 a.ak,.own 5 0 0 a.ae.length],[.row 0 5 1 26 (λ_=>[.int .i64 0,.int .i64 0,.str [],.int .i64 0,.own 1 0 0 e.length]),.row 0 8 e.length 51 n,.row 0 5 1 26 (λ_=>[.int .i64 b.aj,.int .i64 b.ao,.str b.aq,.int .i64 b.ak,.own 3 0 0 k.length]),.row 0 8 k.length 51 f,.row 0 8 1 51 (λ_=>c.lit),.row 0 8 a.ae.length 51 q],rfl,(by simp only[SE,SS,shr,DK y];rfl),⟨rfl,⟨rfl,⟨rfl,⟨rfl,⟨λ_=>[.bool c.ar.av,.int .i64 c.ar.ao,.str c.ar.aq,.int .i64 a.aj,.int .i64 a.ao,.str a.aq,.int .i64 a.ak,.own 5 0 0 a.ae.length],tI,⟨rfl,⟨rfl,(bk h λA C h=>(.fG ⟨rfl,rfl,(λ_ _=>rfl),DR.Nr j C,A.length,ax f k.length [.bool c.ar.av,.int .i64 c.ar.ao,.str c.ar.aq,.int .i64 a.aj,.int .i64 a.ao,.str a.aq,.int .i64 a.ak,.own 5 0 0 a.ae.length],DR.ln j C,tJ (DR.ln j C) ⟨.same _,.same _,.same _,.same _,.same _,.same _,.same _,.same _,trivial⟩,⟨rfl,⟨rfl,_,λ_=>[.int .i64 b.aj,.int .i64 b.ao,.str b.aq,.int .i64 b.ak,.own 3 (0+1) 0 A.length],rfl,aB rfl,(.ab 3 k.length 7 5 (λu=>[.row 0 5 1 26 (λ_=>[.int .i64 0,.int .i64 0,.str [],.int .i64 0,.own 1 0 0 e.length]),.row 0 8 e.length 51 n,.row 0 5 1 26 (λ_=>[.int .i64 b.aj,.int .i64 b.ao,.str b.aq,.int .i64 b.ak,.own 3 (0+1) 0 A.length]),.row (0+1) 8 A.length 51 (ax f k.length [.bool c.ar.av,.int .i64 c.ar.ao,.str c.ar.aq,.int .i64 a.aj,.int .i64 a.ao,.str a.aq,.int .i64 a.ak,.aG 8 a.ae.length 51 q u]),.row 0 8 1 51 (λ_=>c.lit),.dead,.row 0 8 1 51 (λ_=>[.bool c.ar.av,.int .i64 c.ar.ao,.str c.ar.aq,.int .i64 a.aj,.int .i64 a.ao,.str a.aq,.int .i64 a.ak,.own 5 0 0 a.ae.length])]) (λu=>eV [.bool c.ar.av,.int .i64 c.ar.ao,.str c.ar.aq,.int .i64 a.aj,.int .i64 a.ao,.str a.aq,.int .i64 a.ak,.own 5 0 0 a.ae.length] [.bool c.ar.av,.int .i64 c.ar.ao,.str c.ar.aq,.int .i64 a.aj,.int .i64 a.ao,.str a.aq,.int .i64 a.ak,.aG 8 a.ae.length 51 q u] (ax f k.length [.bool c.ar.av,.int .i64 c.ar.ao,.str c.ar.aq,.int .i64 a.aj,.int .i64 a.ao,.str a.aq,.int .i64 a.ak,.aG 8 a.ae.length 51 q u]) (DR.lq j C) aA aA bz (y).po rfl rfl rfl rfl UO rfl) λu=>?_)⟩⟩⟩))⟩⟩⟩⟩⟩⟩⟩⟩;have t:DR af.D A.length (ax f k.length [.bool c.ar.av,.int .i64 c.ar.ao,.str c.ar.aq,.int .i64 a.aj,.int .i64 a.ao,.str a.aq,.int .i64 a.ak,.aG 8 a.ae.length 51 q u]) A:=DR.Hg j C (af.dz (x:=(af.mk c.ar a)) y:af.D [.bool c.ar.av,.int .i64 c.ar.ao,.str c.ar.aq,.int .i64 a.aj,.int .i64 a.ao,.str a.aq,.int .i64 a.ak,.aG 8 a.ae.length 51 q u] (af.mk c.ar a));exact lg (P _ _ _ _ _ h n (ax f k.length [.bool c.ar.av,.int .i64 c.ar.ao,.str c.ar.aq,.int .i64 a.aj,.int .i64 a.ao,.str a.aq,.int .i64 a.ak,.aG 8 a.ae.length 51 q u]) m t rfl rfl) (tk [0,1,2,3] ⟨.p,.p,.l,.i,.i,⟨⟩⟩ ⟨(nb rfl ⟨.i,.i,.s,.i,(.od (by first | rfl | exact m.len | exact m.len.symm)),⟨⟩⟩),(tK m),(nb rfl ⟨.i,.i,.s,.i,(.od (by first | rfl | exact t.len | exact t.len.symm)),⟨⟩⟩),(tK t),⟨⟩⟩);exact ct ⟨_,_,n,f,m,j,si h,rfl,rfl⟩ (tk [0,1,2,3] ⟨.p,.p,⟨⟩⟩ ⟨(nb rfl ⟨.i,.i,.s,.i,(.od (by first | rfl | exact m.len | exact m.len.symm)),⟨⟩⟩),(tK m),(nb rfl ⟨.i,.i,.s,.i,(.od (by first | rfl | exact j.len | exact j.len.symm)),⟨⟩⟩),(tK j),⟨⟩⟩);rintro _ _ ⟨z,w,G,E,Y,B,rfl,rfl,rfl⟩;replace h:=M;refine .d ⟨rfl,_,rfl,⟨rfl,_,λ_=>[.int .i64 b.aj,.int .i64 b.ao,.str b.aq,.int .i64 b.ak,.own 3 0 0 w.length],rfl,aB rfl,?_⟩⟩;obtain rfl:=si h;exact⟨rfl,_,rfl,(en [3] ⟨E,B.self,rfl,rfl⟩ (.aM ⟨.i,.i,.s,.i,(.od (by first | rfl | exact B.len | exact B.len.symm)),⟨⟩⟩) ⟨(tK B B.len B.len),⟨⟩⟩)⟩;intro U V W X b e k v o h;exact .mk U W V X b e k v o h
theorem yi {a:ai} {r:ai} (h:rO a=some r):ACall Tryd.prog 18 [.agg a.lit] [] (λres h=>∃b:Nat->List PV,DR af.D r.ae.length b r.ae/\res=.agg [.int .i64 r.aj,.int .i64 r.ao,.str r.aq,.int .i64 r.ak,.own 0 0 0 r.ae.length]/\h=[.row 0 8 r.ae.length 51 b]):=DJ.1 a r h
end Go.Am
