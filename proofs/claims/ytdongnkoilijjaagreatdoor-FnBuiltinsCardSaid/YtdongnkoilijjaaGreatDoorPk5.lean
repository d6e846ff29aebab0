/- Texts of the proof, joined and shortened. -/
import Derived.Test.YtdongnkoilijjaaGreatDoorPk4
import Derived.Test.YtdongnkoilijjaaGreatDoorShelf
import Derived.WalkKit
import Derived.BigCall
set_option linter.unusedVariables false
set_option linter.unusedSimpArgs false
namespace Go.Am
open Go Go.RowKit Go.Proofs
def wx (a:Int) (b:Int) (c:Int):Option (Bool):=if a>=b then some (decide (a<=c))else some false
theorem oX {a:Int} {b:Int} {c:Int} {r:Bool} (h:wx a b c=some r):ACall Tryz.prog 45 [pI a,pI b,pI c] [] (λres h=>res=.bool r/\h=[]):=by
 refine cA Tryz.func45 ?_;unfold wx at h;refine .d (.d (sD h (λe h=>?_) (λe h=>?_)));exact .t (.t (.t (eB h)));exact .f (.f (.f (eB h)))
theorem di:ACall Tryz.prog 37 [] [] (λres h=>res=.agg [pI 0,pI 0,.str [],pI 0,.aF]/\h=[]):=by
 refine cA Tryz.func37 ?_;exact aep
def Dx (a:Int) (b:Int) (c:Int):Option (Bool):=if b<=a then some (decide (a<=c))else some false
theorem Dy {a:Int} {b:Int} {c:Int} {r:Bool} (h:Dx a b c=some r):ACall Tryz.prog 137 [pI a,pI b,pI c] [] (λres h=>res=.bool r/\h=[]):=by
 refine cA Tryz.func137 ?_;unfold Dx at h;refine .d (.d (sD h (λe h=>?_) (λe h=>?_)));exact .t (.t (.t (eB h)));exact .f (.f (.f (eB h)))
theorem ly (a:Int):ACall Tryz.prog 148 [pI a] [] (λres h=>res=.agg [.bool false,pI a,.str []]/\h=[]):=by
 refine cA Tryz.func148 ?_;exact .d (.d ⟨rfl,_,_,rfl,au,rfl,_,rfl,(en [] ⟨rfl,rfl⟩ Iy ⟨⟩)⟩)
theorem fg (a:Int):S6 83 a:=by
 refine cA Tryz.func83 ?_;exact aep
theorem bA (a:aB):S7 85 a:=by
 refine cA Tryz.func85 ?_;exact aep
def cc (a:Bool):Option (ae):=if a then some (ae.mk 1 1 [] 0 [])else some (ae.mk 1 0 [] 0 [])
theorem dA {a:Bool} {r:ae} (h:cc a=some r):ACall Tryz.prog 98 [.bool a] [] (λres h=>res=.agg r.lit/\h=[]):=by
 refine cA Tryz.func98 ?_;unfold cc at h;refine .d (.d (.d (sV h (λb h=>?_) (λb h=>?_))));refine .d ⟨rfl,_,_,rfl,au,?_⟩;exact adR;refine .d ⟨rfl,_,_,rfl,au,?_⟩;exact adR
theorem nA:S8 147:=by
 refine cA Tryz.func147 ?_;exact aep
def S9 (a:Int) (b:Int):Option (Int):=if b>a then some b else some a
theorem Yt {a:Int} {b:Int} {r:Int} (h:S9 a b=some r):Xy 140 a b r:=by
 refine cA Tryz.func140 ?_;unfold S9 at h;refine .d (.d (.d (sD h (λc h=>?_) (λc h=>?_))));exact aer;exact aer
def lz (a:Int) (b:Int):Option (Int):=if b<a then some b else some a
theorem BS {a:Int} {b:Int} {r:Int} (h:lz a b=some r):Xy 141 a b r:=by
 refine cA Tryz.func141 ?_;unfold lz at h;refine .d (.d (.d (sD h (λc h=>?_) (λc h=>?_))));exact aer;exact aer
def LA (a:Int) (b:Int):Option (Int):=if b>a then some b else some a
theorem LY {a:Int} {b:Int} {r:Int} (h:LA a b=some r):Xy 29 a b r:=by
 refine cA Tryz.func29 ?_;unfold LA at h;refine .d (.d (.d (sD h (λc h=>?_) (λc h=>?_))));exact aer;exact aer
theorem kB:S8 67:=by
 refine cA Tryz.func67 ?_;exact aep
theorem jP (a:Int):S6 114 a:=by
 refine cA Tryz.func114 ?_;exact aep
theorem oL (a:aB):S7 123 a:=by
 refine cA Tryz.func123 ?_;exact aep
def Dz (a:Bool):Option (ae):=if a then some (ae.mk 1 1 [] 0 [])else some (ae.mk 1 0 [] 0 [])
theorem Ta {a:Bool} {r:ae} (h:Dz a=some r):ACall Tryz.prog 127 [.bool a] [] (λres h=>res=.agg r.lit/\h=[]):=by
 refine cA Tryz.func127 ?_;unfold Dz at h;refine .d (.d (.d (sV h (λb h=>?_) (λb h=>?_))));refine .d ⟨rfl,_,_,rfl,au,?_⟩;exact adR;refine .d ⟨rfl,_,_,rfl,au,?_⟩;exact adR
def gP (a:aL):Option (ae):=if a.bh=true then some (ae.mk 3 0 a.bz 0 [])else some (ae.mk 2 a.aY [] 0 [])
theorem qP {a:aL} {r:ae} (h:gP a=some r):ACall Tryz.prog 93 [.agg a.lit] [] (λres h=>res=.agg r.lit/\h=[]):=by
 refine cA Tryz.func93 ?_;unfold gP at h;refine .d (.d (.d ⟨rfl,rfl,_,rfl,(sV h (λb h=>?_) (λb h=>?_))⟩));refine .d ⟨rfl,rfl,_,rfl,(aT (bA a.bz) ⟨rfl,_,_,rfl,au,?_⟩)⟩;exact adR;refine .d ⟨rfl,rfl,_,rfl,(aT (fg a.aY) ⟨rfl,_,_,rfl,au,?_⟩)⟩;exact adR
theorem GO (a:List UInt8):ACall Tryz.prog 5 [sl 1 cB a] [] (λres h=>res=.bool (decide ((a.length:Int)>1048576))/\h=[]):=by
 refine cA Tryz.func5 ?_;exact .d (.d (en [] ⟨rfl,rfl⟩ .b ⟨⟩))
def rl (b:List UInt8) (c:Int) (a:Int):Option (Int):=if a<(b.length:Int)then if a<4000 then idx b a>>=λd=>rl b (bits .and .i64 (aP ((aP ((aP (c*137))+(aP ((d.toNat:Int)))))+11)) 1073741823) (aP (a+1))else some c else some c partial_fixpoint
def Tb (a:List UInt8):Option (aA):=(rl a (aP (193017+(a.length:Int))) 0:Option (Int))>>=λy1=>some (aA.mk a 0 y1)
theorem Yu {a:List UInt8} {r:aA} (h:Tb a=some r):ACall Tryz.prog 25 [sl 1 cB a] [] (λres h=>res=.aE 0 0 0 0/\h=[.row 0 3 1 94 (λ_=>r.lit)]):=by
 refine cA Tryz.func25 ?_;unfold Tb at h;refine .d (.d ?_);obtain⟨b,h,kr⟩:=bd h;refine .cut (λσ η=>∃y1,y1=b/\σ=[(0,sl 1 cB a),(3,pI y1)]/\η=[]) ?_ ?_;refine .d ?_;refine le (rl.partial_correctness a (motive:=λc e g=>b=g->aG _ _ [(0,sl 1 cB a),(3,pI c),(4,pI e)] []) ?_ (aP (193017+(a.length:Int))) 0 b h rfl) (tk [] ⟨.l,.i,.i,⟨⟩⟩ ⟨⟩);intro q k c e g h m;subst m;refine aG.round (.d (.d (sD h (λn h=>?_) (λn h=>?_))));refine .t (.t (sD h (λo h=>?_) (λo h=>?_)));exact .d (bk h λs j h=>⟨ba j,_,(aQ j).trans rfl,(lg (k _ _ _ h rfl) (tk [] ⟨.l,.i,.i,⟨⟩⟩ ⟨⟩))⟩);exact ct ⟨_,si h,rfl,rfl⟩ (tk [] ⟨.l,.i,⟨⟩⟩ ⟨⟩);exact .f (.f (.f (ct ⟨_,si h,rfl,rfl⟩ (tk [] ⟨.l,.i,⟨⟩⟩ ⟨⟩))));rintro _ _ ⟨y1,rfl,rfl,rfl⟩;replace h:=kr;refine .d ?_;obtain rfl:=si h;exact en [0] ⟨rfl,rfl⟩ .p ⟨(nb rfl ⟨.l,.i,.i,⟨⟩⟩),⟨⟩⟩
def N8 (a:aA):Option (Int×aA):=if a.fI<(a.fB.length:Int)then idx a.fB a.fI>>=λb=>some (bits .and .i64 (aP ((bits .and .i64 (bits .xor .i64 ((aP ((aP (a.fH*6364136223846793005))+1442695040888963407)).fdiv (2 ^ min (33:Int).toNat IntKind.i64.bits)) ((aP ((aP (a.fH*6364136223846793005))+1442695040888963407)).fdiv (2 ^ min (47:Int).toNat IntKind.i64.bits))) 255)+(aP ((b.toNat:Int))))) 255,(aA.mk a.fB (aP (a.fI+1)) (aP ((aP (a.fH*6364136223846793005))+1442695040888963407))))else some (bits .and .i64 (bits .xor .i64 ((aP ((aP (a.fH*6364136223846793005))+1442695040888963407)).fdiv (2 ^ min (33:Int).toNat IntKind.i64.bits)) ((aP ((aP (a.fH*6364136223846793005))+1442695040888963407)).fdiv (2 ^ min (47:Int).toNat IntKind.i64.bits))) 255,(aA.mk a.fB a.fI (aP ((aP (a.fH*6364136223846793005))+1442695040888963407))))
theorem L0 {a:aA} {r:Int×aA} {ax:Nat} (h:N8 a=some r):Tc 135 a r ax:=by
 refine cA Tryz.func135 ?_;unfold N8 at h;refine .d (.d ⟨rfl,rfl,rfl,_,rfl,rfl,rfl,rfl,_,_,rfl,au,(.d ⟨rfl,rfl,rfl,_,rfl,by decide,rfl,rfl,?_⟩)⟩);refine⟨rfl,_,rfl,by decide,(.d (.d ⟨rfl,rfl,rfl,_,rfl,rfl,rfl,rfl,_,rfl,(sD h (λc h=>?_) (λc h=>?_))⟩))⟩;refine .d ⟨rfl,rfl,rfl,_,rfl,rfl,rfl,rfl,_,rfl,(bk h λe b h=>⟨ba b,_,(aQ b).trans rfl,rfl,rfl,rfl,_,rfl,rfl,rfl,rfl,_,_,rfl,au,?_⟩)⟩;refine .d ?_;exact adW;refine .d ?_;exact adW
def qQ (b:aA) (a:Int):Option (Int×aA):=if a<=0 then some (0,b)else if a<=256 then N8 b>>=λ(e,f)=>must (a≠0)>>=λ_=>some (e.tmod a,f)else N8 b>>=λ(g,h)=>N8 h>>=λ(c,d)=>N8 d>>=λ(i,j)=>must (a≠0)>>=λ_=>some ((aP ((aP ((aP (g*65536))+(aP (c*256))))+i)).tmod a,j)
theorem ph {b:aA} {c:Int} {r:Int×aA} {ax:Nat} (h:qQ b c=some r):ACall Tryz.prog 66 [.aE 0 ax 0 0,pI c] [.row ax 3 1 94 (λ_=>b.lit)] (λres h=>res=pI r.1/\h=[.row ax 3 1 94 (λ_=>r.2.lit)]):=by
 refine cA Tryz.func66 ?_;unfold qQ at h;refine .d (.d (.d (sD h (λe h=>?_) (λe h=>?_))));refine .d ?_;exact adW;refine .d (.d (sD h (λf h=>?_) (λf h=>?_)));refine .d ?_;obtain⟨⟨o,p⟩,g,h⟩:=bd h;refine dR (L0 g) [0] ?_;obtain⟨_,a,h⟩:=bd h;refine⟨zm a,?_⟩;exact adW;refine .d ?_;obtain⟨⟨q,s⟩,i,h⟩:=bd h;refine dR (L0 i) [0] ?_;refine .d ?_;obtain⟨⟨j,k⟩,l,h⟩:=bd h;refine dR (L0 l) [0] ?_;refine .d ?_;obtain⟨⟨t,u⟩,m,h⟩:=bd h;refine dR (L0 m) [0] ?_;refine .d ?_;obtain⟨_,n,h⟩:=bd h;refine⟨zm n,?_⟩;exact adW
def vR (a:aA) (b:Int):Option (Bool×aA):=qQ a b>>=λ(c,d)=>some ((c==0),d)
theorem wA {a:aA} {c:Int} {r:Bool×aA} {ax:Nat} (h:vR a c=some r):ACall Tryz.prog 27 [.aE 0 ax 0 0,pI c] [.row ax 3 1 94 (λ_=>a.lit)] (λres h=>res=.bool r.1/\h=[.row ax 3 1 94 (λ_=>r.2.lit)]):=by
 refine cA Tryz.func27 ?_;unfold vR at h;refine .d (.d ?_);obtain⟨⟨f,g⟩,e,h⟩:=bd h;refine dR (ph e) [0] ?_;obtain rfl:=si h;exact en [0] ⟨rfl,rfl⟩ .b rZ
def L3 (b:aA) (a:List Int):Option (Int×aA):=qQ b (a.length:Int)>>=λ(c,d)=>idx a c>>=λe=>some (e,d)
theorem IA {c:aA} {a:List Int} {r:Int×aA} {ax:Nat} {b:Nat} (h:L3 c a=some r):ACall Tryz.prog 73 [.aE 0 ax 0 0,.own 1 b 0 a.length] [.row ax 3 1 94 (λ_=>c.lit),.row b 1 a.length 3 (row cI a)] (λres h=>res=pI r.1/\h=[.row ax 3 1 94 (λ_=>r.2.lit),.row b 1 a.length 3 (row cI a)]):=by
 refine cA Tryz.func73 ?_;unfold L3 at h;refine .d (.d ⟨rfl,?_⟩);obtain⟨⟨g,j⟩,f,h⟩:=bd h;refine dR (ph f) [0] ?_;refine bk h λk e h=>⟨rfl,ba e,_,abx _,rfl,_,((aQ e).trans rfl),?_⟩;obtain rfl:=si h;exact en [0,1] ⟨rfl,rfl⟩ .i ⟨(ob rfl ⟨.l,.i,.i,⟨⟩⟩),od,⟨⟩⟩
def GP (b:aA) (a:List aB):Option (aB×aA):=qQ b (a.length:Int)>>=λ(c,d)=>idx a c>>=λe=>some (e,d)
theorem IB {c:aA} {a:List aB} {r:aB×aA} {ax:Nat} {b:Nat} (h:GP c a=some r):ACall Tryz.prog 65 [.aE 0 ax 0 0,.own 1 b 0 a.length] [.row ax 3 1 94 (λ_=>c.lit),.row b 1 a.length 9 (row cS a)] (λres h=>res=.str r.1/\h=[.row ax 3 1 94 (λ_=>r.2.lit),.row b 1 a.length 9 (row cS a)]):=by
 refine cA Tryz.func65 ?_;unfold GP at h;refine .d (.d ⟨rfl,?_⟩);obtain⟨⟨g,j⟩,f,h⟩:=bd h;refine dR (ph f) [0] ?_;refine bk h λk e h=>⟨rfl,ba e,_,abx _,rfl,_,((aQ e).trans rfl),?_⟩;obtain rfl:=si h;exact en [0,1] ⟨rfl,rfl⟩ .s ⟨(ob rfl ⟨.l,.i,.i,⟨⟩⟩),od,⟨⟩⟩
def BT (a:aA):Option (aB×aA):=GP a ([[],[97],[98],[120,49],[48],[53],[45,53],[48,53],[45,48],[49,50,97],[48,48,55],[49,48,48,48,48,48,48,48,48,48],[49,48,48,48,48,48,48,48,48,49],[32,49],[105,116,39,115],[10],[60,105,62],[255,59],[110,97,109,101],[115,58,49,58]]:List aB)>>=λ(b,c)=>some (b,c)
theorem IC {a:aA} {r:aB×aA} {ax:Nat} (h:BT a=some r):Pd 28 a r ax:=by
 refine cA Tryz.func28 ?_;unfold BT at h;refine .d (.d ⟨row cS ([[],[97],[98],[120,49],[48],[53],[45,53],[48,53],[45,48],[49,50,97],[48,48,55],[49,48,48,48,48,48,48,48,48,48],[49,48,48,48,48,48,48,48,48,49],[32,49],[105,116,39,115],[10],[60,105,62],[255,59],[110,97,109,101],[115,58,49,58]]:List aB),aM cS ([[],[97],[98],[120,49],[48],[53],[45,53],[48,53],[45,48],[49,50,97],[48,48,55],[49,48,48,48,48,48,48,48,48,48],[49,48,48,48,48,48,48,48,48,49],[32,49],[105,116,39,115],[10],[60,105,62],[255,59],[110,97,109,101],[115,58,49,58]]:List aB) rfl (aU rfl),?_⟩);obtain⟨⟨c,e⟩,b,h⟩:=bd h;refine r7 (IB b) [0,1] ⟨rfl,ov,⟨⟩⟩ ?_;exact aek
def LB (b:aA):Option (aL×aA):=vR b 3>>=λ(c,a)=>if c then GP a ([[97],[98],[99],[],[48,53],[120]]:List aB)>>=λ(d,e)=>some ((aL.mk true 0 d),e)else L3 a ([0,1,2,3,4,(-1),7,1000000000,(-1000000000)]:List Int)>>=λ(f,g)=>some ((aL.mk false f []),g)
theorem L4 {a:aA} {r:aL×aA} {ax:Nat} (h:LB a=some r):ACall Tryz.prog 69 [.aE 0 ax 0 0] [.row ax 3 1 94 (λ_=>a.lit)] (λres h=>res=.agg r.1.lit/\h=[.row ax 3 1 94 (λ_=>r.2.lit)]):=by
 refine cA Tryz.func69 ?_;unfold LB at h;refine .d (.d (.d ?_));obtain⟨⟨g,i⟩,b,h⟩:=bd h;refine dR (wA b) [0] ?_;refine sV h (λc h=>?_) (λc h=>?_);refine .d ⟨row cS ([[97],[98],[99],[],[48,53],[120]]:List aB),aM cS ([[97],[98],[99],[],[48,53],[120]]:List aB) rfl (aU rfl),?_⟩;obtain⟨⟨j,k⟩,e,h⟩:=bd h;refine r7 (IB e) [0,2] ⟨rfl,ov,⟨⟩⟩ ?_;refine⟨rfl,_,_,rfl,au,?_⟩;obtain rfl:=si h;exact⟨rfl,_,rfl,(en [0] ⟨rfl,rfl⟩ Iy rZ)⟩;refine .d ⟨row cI ([0,1,2,3,4,(-1),7,1000000000,(-1000000000)]:List Int),aM cI ([0,1,2,3,4,(-1),7,1000000000,(-1000000000)]:List Int) rfl (aU rfl),?_⟩;obtain⟨⟨l,m⟩,f,h⟩:=bd h;refine r7 (IA f) [0,2] ⟨rfl,ov,⟨⟩⟩ ?_;refine⟨rfl,_,_,rfl,au,?_⟩;obtain rfl:=si h;exact⟨rfl,_,rfl,(en [0] ⟨rfl,rfl⟩ Iy rZ)⟩
def Si (a:aA):Option (Int×aA):=L3 a ([(-1),0,1,2,255,256,65535,2147483647,2147483648,4294967295,4294967296,(-2147483648),9223372036854775807,(-9223372036854775808)]:List Int)>>=λ(b,c)=>some (b,c)
theorem Td {a:aA} {r:Int×aA} {ax:Nat} (h:Si a=some r):Tc 72 a r ax:=by
 refine cA Tryz.func72 ?_;unfold Si at h;refine .d (.d ⟨row cI ([(-1),0,1,2,255,256,65535,2147483647,2147483648,4294967295,4294967296,(-2147483648),9223372036854775807,(-9223372036854775808)]:List Int),aM cI ([(-1),0,1,2,255,256,65535,2147483647,2147483648,4294967295,4294967296,(-2147483648),9223372036854775807,(-9223372036854775808)]:List Int) rfl (aU rfl),?_⟩);obtain⟨⟨c,e⟩,b,h⟩:=bd h;refine r7 (IA b) [0,1] ⟨rfl,ov,⟨⟩⟩ ?_;exact adW
def pj (a:ae) (c:aL) (b:Int):Option ID:=if a.aD=4 then if b<(a.aj.length:Int)then idx a.aj b>>=λd=>if d.aS=c then some (.inr b)else pj a c (aP (b+1))else some (.inl ())else some (.inl ()) partial_fixpoint
def DB (a:ae) (b:aL):Option (Int):=((pj a b 0:Option ID)>>=λo1=>match o1 with | .inr r=>some r | .inl _=>some (-1))
theorem IE {b:ae} {a:aL} {r:Int} (h:DB b a=some r):ACall Tryz.prog 71 [.agg b.lit,.agg a.lit] [] (λres h=>res=pI r/\h=[]):=by
 refine cA Tryz.func71 ?_;unfold DB at h;refine .d ?_;obtain⟨o1,h,iL⟩:=bd h;refine .cut (λσ η=>.inl ()=o1/\σ=[]/\η=[]) ?_ ?_;refine .d ?_;refine le (pj.partial_correctness b a (motive:=λc e=>o1=e->aG _ _ [(2,.aE 0 0 0 0),(3,.aE 1 0 0 0),(5,pI c)] [.row 0 5 1 33 (λ_=>b.lit),.row 0 3 1 100 (λ_=>a.lit)]) ?_ 0 o1 h rfl) (tk [0,1] ⟨.p,.p,.i,⟨⟩⟩ r8);intro o Ax c e h k;subst k;refine aG.round (.d (.d ⟨rfl,rfl,_,rfl,(sE h (λl h=>?_) (λl h=>?_))⟩));refine .t ⟨rfl,(.t ⟨rfl,_,rfl,(.t (.t (.t (sD h (λm h=>?_) (λm h=>?_)))))⟩)⟩;refine .d (.d ⟨rfl,rfl,_,rfl,(bk h λg j h=>⟨ba j,_,(aQ j).trans (af.aC g),rfl,_,rfl,_,aL.kS g.aS a,(sD h (λn h=>?_) (λn h=>?_))⟩)⟩);refine .d ?_;exact adG;exact lg (Ax _ _ h rfl) (tk [0,1] ⟨.p,.p,.i,⟨⟩⟩ r8);exact aes;exact .f (.f (.f (.f (.f (.f (ct ⟨si h,rfl,rfl⟩ (tk [] ⟨⟩ ⟨⟩)))))));rintro _ _ ⟨rfl,rfl,rfl⟩;replace h:=iL;exact aer
def rm (b:ae) (c:aL) (a:Int):Option ID:=if a<(b.aj.length:Int)then idx b.aj a>>=λd=>if d.aS=c then some (.inr a)else rm b c (aP (a+1))else some (.inl ()) partial_fixpoint
def N9 (a:ae) (b:aL):Option (Int):=if a.aD=4 then((rm a b 0:Option ID)>>=λc=>match c with | .inr r=>some r | .inl _=>some (-1))else some (-1)
theorem Yw {a:ae} {b:aL} {r:Int} (h:N9 a b=some r):ACall Tryz.prog 233 [.agg a.lit,.agg b.lit] [] (λres h=>res=pI r/\h=[]):=by
 refine cA Tryz.func233 ?_;unfold N9 at h;refine .d (.d (.d ⟨rfl,rfl,_,rfl,(sN h (λm h=>?_) (λm h=>?_))⟩));exact aer;obtain⟨c,h,kr⟩:=bd h;refine .cut (λσ η=>.inl ()=c/\σ=[]/\η=[]) ?_ ?_;refine .d ⟨rfl,rfl,_,rfl,?_⟩;refine le (rm.partial_correctness a b (motive:=λf g=>c=g->aG _ _ [(3,.aE 0 0 0 0),(11,sl 8 af.cells a.aj),(12,pI (a.aj.length:Int)),(13,pI f)] [.row 0 3 1 100 (λ_=>b.lit)]) ?_ 0 c h rfl) (tk [1] ⟨.p,.l,.i,.i,⟨⟩⟩ nY);intro s e f g h n;subst n;refine aG.round (.d (.d (sD h (λo h=>?_) (λo h=>?_))));refine .d (.d (bk h λj k h=>⟨ba k,_,(aQ k).trans (af.aC j),rfl,_,_,rfl,au,(.d ⟨rfl,rfl,_,rfl,rfl,_,rfl,_,aL.kS j.aS b,(sD h (λq h=>?_) (λq h=>?_))⟩)⟩));refine .d ?_;obtain rfl:=si h;replace h:=kr;exact eI h;exact lg (e _ _ h rfl) (tk [0] ⟨.p,.l,.i,.i,⟨⟩⟩ nY);exact aes;rintro _ _ ⟨rfl,rfl,rfl⟩;replace h:=kr;exact aer
mutual
def Oa (a:ae) (b:Int):Option (Int):=(pn a b 1 0:Option (Int))>>=λy1=>some y1 partial_fixpoint
def pn (b:ae) (c:Int) (a:Int) (d:Int):Option (Int):=if b.aD=4 then if d<(b.aj.length:Int)then if a<=c then idx b.aj d>>=λe=>Oa e.bE (aP (c - a))>>=λf=>pn b c (aP (a+f)) (aP (d+1))else some a else some a else some a partial_fixpoint
end
def IF (a:ae) (b:Int) (r:Int):Prop:=ACall Tryz.prog 40 [.agg a.lit,pI b] [] (λres h=>res=pI r/\h=[])
inductive pq:ae->Int->Int->Int->(Int)->Prop
 | mk (G40:ae->Int->Option (Int)) (abc:∀a0 a1 r,G40 a0 a1=some r->IF a0 a1 r) (BV:ae->Int->Int->Int->Option (Int)) (Sj:∀a0 a1 y5 y6 o,BV a0 a1 y5 y6=some o->pq a0 a1 y5 y6 o) (a0:ae) (a1:Int) (y5:Int) (y6:Int) (o:Int) (h:(
 (if a0.aD=4 then
 (if y6<(a0.aj.length:Int)then
 (if y5<=a1 then
 idx a0.aj y6>>=λwC=>
 G40 wC.bE (aP (a1 - y5))>>=λqk=>
 BV a0 a1 (aP (y5+qk)) (aP (y6+1))
 else
 some y5)
 else
 some y5)
 else
 some y5)
 )=some o):pq a0 a1 y5 y6 o
theorem Pe:(∀a b r,Oa a b=some r->IF a b r)/\(∀a b c e o,pn a b c e=some o->pq a b c e o):=by
 refine Oa.mutual_partial_correctness IF pq ?_ ?_;intro _ n a b r h;refine cA Tryz.func40 ?_;refine .d (.d ?_);obtain⟨g,h,kr⟩:=bd h;refine .cut (λσ η=>∃y1,y1=g/\σ=[(5,pI y1)]/\η=[]) ?_ ?_;refine .d ?_;have q:=n _ _ _ _ _ h;refine le (pq.rec (motive:=λj k c e l _=>a=j->b=k->g=l->aG _ _ [(1,pI b),(2,.aE 0 0 0 0),(5,pI c),(6,pI e)] [.row 0 5 1 33 (λ_=>a.lit)]) ?_ q rfl rfl rfl) (tk [0] ⟨.i,.p,.i,.i,⟨⟩⟩ nY);intro _ s _ _ j k c e l h u  v w x;subst v;subst w;subst x;refine aG.round (.d (.d ⟨rfl,rfl,_,rfl,(sE h (λy h=>?_) (λy h=>?_))⟩));refine .t ⟨rfl,(.t ⟨rfl,_,rfl,(.t (.t (.t (sD h (λz h=>?_) (λz h=>?_)))))⟩)⟩;refine .t (.t (.t (sD h (λA h=>?_) (λA h=>?_))));exact .d ⟨rfl,rfl,_,rfl,(bk h λB m h=>⟨ba m,_,(aQ m).trans (af.aC B),(bk h λH C h=>(aT (s _ _ _ C) (lg (u _ _ _ _ _ h rfl rfl rfl) (tk [0] ⟨.i,.p,.i,.i,⟨⟩⟩ nY))))⟩)⟩;exact aex;exact .f (.f (.f (.f (ct ⟨_,si h,rfl,rfl⟩ (tk [] BW ⟨⟩)))));exact .f (.f (.f (.f (.f (.f (.f (.f (.f (.f (ct ⟨_,si h,rfl,rfl⟩ (tk [] BW ⟨⟩)))))))))));exact adF;intro D E F G a b c e o h;exact .mk D F E G a b c e o h
theorem Yy {a:ae} {b:Int} {r:Int} (h:Oa a b=some r):ACall Tryz.prog 40 [.agg a.lit,pI b] [] (λres h=>res=pI r/\h=[]):=Pe.1 a b r h
mutual
def jx (a:ae):Option (Int):=((if a.aD=4 then gp a 1 0 else some 1):Option (Int))>>=λy1=>some y1 partial_fixpoint
def gp (a:ae) (c:Int) (b:Int):Option (Int):=if b<(a.aj.length:Int)then idx a.aj b>>=λd=>jx d.bE>>=λe=>gp a (aP (c+e)) (aP (b+1))else some c partial_fixpoint
end
def IH (a:ae) (r:Int):Prop:=Pj 79 a r
inductive gX:ae->Int->Int->(Int)->Prop
 | mk (G79:ae->Option (Int)) (abd:∀a0 r,G79 a0=some r->IH a0 r) (oM:ae->Int->Int->Option (Int)) (GQ:∀a0 y6 y7 o,oM a0 y6 y7=some o->gX a0 y6 y7 o) (a0:ae) (y6:Int) (y7:Int) (o:Int) (h:(
 (if y7<(a0.aj.length:Int)then
 idx a0.aj y7>>=λPh=>
 G79 Ph.bE>>=λnX=>
 oM a0 (aP (y6+nX)) (aP (y7+1))
 else
 some y6)
 )=some o):gX a0 y6 y7 o
theorem yJ:(∀a r,jx a=some r->IH a r)/\(∀a b c o,gp a b c=some o->gX a b c o):=by
 refine jx.mutual_partial_correctness IH gX ?_ ?_;intro _ k a r h;refine cA Tryz.func79 ?_;refine .d (.d ?_);obtain⟨f,h,kr⟩:=bd h;refine .cut (λσ η=>∃y1,y1=f/\σ=[(3,pI y1)]/\η=[]) ?_ ?_;refine .d ⟨rfl,rfl,_,rfl,(sE h (λm h=>?_) (λm h=>?_))⟩;refine .d ⟨rfl,rfl,_,rfl,?_⟩;have n:=k _ _ _ _ h;refine le (gX.rec (motive:=λe b c g _=>a=e->f=g->aG _ _ [(3,pI b),(10,sl 8 af.cells a.aj),(11,pI (a.aj.length:Int)),(12,pI c)] []) ?_ n rfl rfl) (tk [] ⟨.i,.l,.i,.i,⟨⟩⟩ ⟨⟩);intro _ p _ _ e b c g h q  s t;subst s;subst t;refine aG.round (.d (.d (sD h (λu h=>?_) (λu h=>?_))));exact .d (.d (bk h λv j h=>⟨ba j,_,(aQ j).trans (af.aC v),rfl,_,_,rfl,au,rfl,rfl,_,rfl,(bk h λB w h=>(aT (p _ _ w) (lg (q _ _ _ _ h rfl rfl) (tk [] ⟨.i,.l,.i,.i,⟨⟩⟩ ⟨⟩))))⟩));exact aex;exact aex;exact adF;intro x y z A a b c o h;exact .mk x z y A a b c o h
theorem BX {a:ae} {r:Int} (h:jx a=some r):Pj 79 a r:=yJ.1 a r h
def pr (b:aB) (a:Int):Option (aB):=if a=0 then some b else if(a.tmod 10)<0 then ja ([UInt8.ofNat (IntKind.u8.wrap (aP (48+(aP (0 - (a.tmod 10)))))).toNat]:List UInt8) b>>=λc=>pr c (aP (a.tdiv 10))else ja ([UInt8.ofNat (IntKind.u8.wrap (aP (48+(a.tmod 10)))).toNat]:List UInt8) b>>=λd=>pr d (aP (a.tdiv 10)) partial_fixpoint
def Tg (a:Int):Option (aB):=if a=0 then some [48]else(pr [] a:Option (aB))>>=λb=>if a<0 then ja [45] b>>=λc=>some c else some b
theorem YC {b:Int} {r:aB} (h:Tg b=some r):Th 163 b r:=by
 refine cA Tryz.func163 ?_;unfold Tg at h;refine .d (.d (.d (sE h (λn h=>?_) (λn h=>?_))));exact aeo;refine .d ?_;obtain⟨c,h,o⟩:=bd h;refine .cut (λσ η=>∃e,e=c/\σ=[(0,pI b),(3,.str e)]/\η=[]) ?_ ?_;refine .d ?_;refine le (pr.partial_correctness  (motive:=λf a g=>c=g->aG _ _ [(0,pI b),(3,.str f),(4,pI a)] []) ?_ [] b c h rfl) (tk [] ⟨.i,.s,.i,⟨⟩⟩ ⟨⟩);intro y j f a g h p;subst p;refine aG.round (.d (.d (sN h (λq h=>?_) (λq h=>?_))));refine .d (.d ⟨by decide,(.d (.d (sD h (λt h=>?_) (λt h=>?_))))⟩);exact⟨row cB ([UInt8.ofNat (IntKind.u8.wrap (aP (48+(aP (0 - (a.tmod 10)))))).toNat]:List UInt8),aM cB ([UInt8.ofNat (IntKind.u8.wrap (aP (48+(aP (0 - (a.tmod 10)))))).toNat]:List UInt8) rfl (cq (Fs _) ⟨.same _,trivial⟩ trivial),rfl,([UInt8.ofNat (IntKind.u8.wrap (aP (48+(aP (0 - (a.tmod 10)))))).toNat]:List UInt8),rfl,fP aw rfl,(bk h λu k h=>⟨cx k,u,cy k,by decide,(lg (j _ _ _ h rfl) (tk [] ⟨.i,.s,.i,⟨⟩⟩ ⟨⟩))⟩)⟩;exact⟨row cB ([UInt8.ofNat (IntKind.u8.wrap (aP (48+(a.tmod 10)))).toNat]:List UInt8),aM cB ([UInt8.ofNat (IntKind.u8.wrap (aP (48+(a.tmod 10)))).toNat]:List UInt8) rfl (cq (Fs _) ⟨.same _,trivial⟩ trivial),rfl,([UInt8.ofNat (IntKind.u8.wrap (aP (48+(a.tmod 10)))).toNat]:List UInt8),rfl,fP aw rfl,(bk h λv l h=>⟨cx l,v,cy l,by decide,(lg (j _ _ _ h rfl) (tk [] ⟨.i,.s,.i,⟨⟩⟩ ⟨⟩))⟩)⟩;exact ct ⟨_,si h,rfl,rfl⟩ (tk [] ⟨.i,.s,⟨⟩⟩ ⟨⟩);rintro _ _ ⟨e,rfl,rfl,rfl⟩;refine .d (.d (sD o (λw h=>?_) (λw h=>?_)));exact .d (bk h λx m h=>⟨cx m,x,cy m,(eS h)⟩);exact aeo
def rq (a:aB) (c:Int) (b:Int):Option ((Int) ⊕ (Int×Bool)):=if b<(a.length:Int)then fF a b>>=λd=>wx (aP ((d.toNat:Int))) 48 57>>=λe=>if e then fF a b>>=λf=>rq a (aP ((aP (10*c))+(aP (IntKind.u8.wrap ((f.toNat:Int) - 48))))) (aP (b+1))else some (.inr (0,false))else some (.inl c) partial_fixpoint
def Tj (a:aB):Option (Int×Bool):=wx (a.length:Int) 1 13>>=λc=>if c then((rq a 0 0:Option ((Int) ⊕ (Int×Bool)))>>=λd=>match d with | .inr r=>some r | .inl b=>if b>1000000000000 then some (0,false)else Tg b>>=λe=>if e=a then some (b,true)else some (0,false))else some (0,false)
theorem YD {a:aB} {r:Int×Bool} (h:Tj a=some r):Xz 212 a r:=by
 refine cA Tryz.func212 ?_;unfold Tj at h;refine .d (.d (.d (bk h λB m h=>(aT (oX m) (kV h (λn h=>?_) (λn h=>?_))))));refine .d ?_;exact adO;refine .d ?_;obtain⟨c,h,g⟩:=bd h;refine .cut (λσ η=>∃e,.inl e=c/\σ=[(0,.str a),(4,pI e)]/\η=[]) ?_ ?_;refine .d ?_;refine le (rq.partial_correctness a (motive:=λi j b=>c=b->aG _ _ [(0,.str a),(4,pI i),(5,pI j)] []) ?_ 0 0 c h rfl) (tk [] GU ⟨⟩);intro o p i j b h q;subst q;refine aG.round (.d (.d (sD h (λs h=>?_) (λs h=>?_))));refine .d (.d (.d (bk h λu k h=>⟨bL k,u,bM k,(bk h λC v h=>(aT (oX v) (kV h (λw h=>?_) (λw h=>?_))))⟩)));refine .d ?_;obtain rfl:=si h;replace h:=g;exact adO;exact bk h λx l h=>⟨bL l,x,bM l,(lg (p _ _ _ h rfl) (tk [] GU ⟨⟩))⟩;exact ct ⟨_,si h,rfl,rfl⟩ (tk [] tP ⟨⟩);rintro _ _ ⟨e,rfl,rfl,rfl⟩;refine .d (.d (sD g (λy h=>?_) (λy h=>?_)));refine .t (.t (.t (.t (.t (.d ?_)))));exact adO;refine .f (bk h λD z h=>(aT (YC z) (.f (.f (.f (L6 h (λA h=>?_) (λA h=>?_)))))));refine .d ?_;exact adO;refine .d ?_;exact adO
def Tk (a:aB):Option (Int×Bool):=((if(a.length:Int)>0 then fF a 0>>=λd=>some ((d.toNat:Int)==45)else some false):Option (Bool))>>=λc=>((if c then oO a 1>>=λe=>some e else some a):Option (aB))>>=λf=>Tj f>>=λ(b,g)=>if g then if b>1000000000 then some (0,false)else if c then if b=0 then some (0,false)else some (aP (0 - b),true)else some (b,true)else some (0,false)
theorem YF {b:aB} {r:Int×Bool} (h:Tk b=some r):Xz 161 b r:=by
 refine cA Tryz.func161 ?_;unfold Tk at h;refine .d ?_;obtain⟨j,h,kr⟩:=bd h;refine .cut (λσ η=>∃a,a=j/\σ=[(0,.str b),(4,.bool a)]/\η=[]) ?_ ?_;refine sD h (λk h=>?_) (λk h=>?_);exact .t (bk h λl g h=>⟨bL g,l,bM g,(.t (.t (ct ⟨_,si h,rfl,rfl⟩ (tk [] jQ ⟨⟩))))⟩);exact .f (.f (.f (ct ⟨_,si h,rfl,rfl⟩ (tk [] jQ ⟨⟩))));rintro _ _ ⟨a,rfl,rfl,rfl⟩;obtain⟨m,h,n⟩:=bd kr;refine .cut (λσ η=>∃c,c=m/\σ=[(0,.str c),(4,.bool a)]/\η=[]) ?_ ?_;refine .d (sV h (λo h=>?_) (λo h=>?_));exact bk h λp i h=>⟨wG i,p,wH i,(ct ⟨_,si h,rfl,rfl⟩ (tk [] jQ ⟨⟩))⟩;exact aem;rintro _ _ ⟨c,rfl,rfl,rfl⟩;replace h:=n;refine .d ?_;obtain⟨⟨w,x⟩,q,h⟩:=bd h;refine aT (YD q) (.d (.d (kV h (λs h=>?_) (λs h=>?_))));refine .t (.t (.t (.t (.t (.t (.t (.d ?_)))))));exact adO;refine .f (.f (sD h (λu h=>?_) (λu h=>?_)));refine .t (.t (.t (.t (.d ?_))));exact adO;refine .f (sV h (λe h=>?_) (λe h=>?_));refine .t (.f (.t (.f (sE h (λv h=>?_) (λv h=>?_)))));refine .d ?_;exact adO;refine .d (.d (.kt e (.d ?_)));exact adO;refine .f (.f (.f (.f (.f (.d (.d (.kf e (.d ?_))))))));exact adO
def m23 (a:aL):Option (Bool):=if a.bh=true then Tk a.bz>>=λ(d,b)=>if a.aY=0 then if(a.bz.length:Int)<=400 then some (!b)else some false else some false else wx a.aY (-1000000000) 1000000000>>=λc=>if c then some (a.bz==([]:aB))else some false
theorem YG {a:aL} {r:Bool} (h:m23 a=some r):ACall Tryz.prog 106 [.agg a.lit] [] (λres h=>res=.bool r/\h=[]):=by
 refine cA Tryz.func106 ?_;unfold m23 at h;refine .d (.d (.d ⟨rfl,rfl,_,rfl,(kV h (λb h=>?_) (λb h=>?_))⟩));refine .d ⟨rfl,rfl,_,rfl,(bk h λk c h=>(aT (oX c) (sV h (λe h=>?_) (λe h=>?_))))⟩;exact⟨rfl,(.t ⟨rfl,_,rfl,(.t (.t (eB h)))⟩)⟩;exact .f (.f (.f (eB h)));refine .d ⟨rfl,rfl,_,rfl,?_⟩;obtain⟨⟨l,m⟩,g,h⟩:=bd h;refine aT (YF g) (.d ⟨rfl,rfl,_,rfl,(sE h (λi h=>?_) (λi h=>?_))⟩);refine⟨rfl,(.t ⟨rfl,_,rfl,(.t (.t (.t (sD h (λj h=>?_) (λj h=>?_)))))⟩)⟩;exact .t (.t (eB h));exact aeG;exact .f (.f (.f (.f (.f (.f (.f (eB h)))))))
mutual
def Oc (a:ae):Option (Bool):=(((if a.aD=3 then if a.aD=4 then some (.inl ())else if a.cj=0 then if(a.aj.length:Int)>0 then some (.inr false)else some (.inl ())else some (.inr false)else if a.bz=([]:aB)then if a.aD=4 then some (.inl ())else if a.cj=0 then if(a.aj.length:Int)>0 then some (.inr false)else some (.inl ())else some (.inr false)else some (.inr false)):Option tN)>>=λo1=>match o1 with | .inr r=>some r | .inl _=>(((if a.aD=0 then some (.inr (a.aY==0))else if a.aD=1 then wx a.aY 0 1>>=λd=>some (.inr d)else if a.aD=2 then wx a.aY (-1000000000) 1000000000>>=λb=>some (.inr b)else if a.aD=3 then if a.aY=0 then some (.inr (decide ((a.bz.length:Int)<=400)))else some (.inr false)else((if a.aD=6 then some (a.aD==6)else if a.aD=7 then some (a.aD==7)else some (a.aD==8)):Option (Bool))>>=λe=>if e then wx a.aY 0 255>>=λc=>some (.inr c)else if a.aD=4 then if a.aY=0 then wx a.cj 0 1000000001>>=λf=>if f then((pt a 0:Option Ij)>>=λg=>match g with | .inr r=>some r | .inl _=>some (.inr true))else some (.inr false)else some (.inr false)else some (.inl ())):Option tN)>>=λh=>match h with | .inr r=>some r | .inl _=>some false)) partial_fixpoint
def pt (a:ae) (b:Int):Option Ij:=if b<(a.aj.length:Int)then idx a.aj b>>=λc=>m23 c.aS>>=λe=>if e then if c.aS.bh=true then DB a c.aS>>=λf=>if f=b then idx a.aj b>>=λg=>Oc g.bE>>=λh=>if h then pt a (aP (b+1))else some (.inr (.inr false))else some (.inr (.inr false))else if c.aS.aY>=a.cj then some (.inr (.inr false))else DB a c.aS>>=λd=>if d=b then idx a.aj b>>=λi=>Oc i.bE>>=λj=>if j then pt a (aP (b+1))else some (.inr (.inr false))else some (.inr (.inr false))else some (.inr (.inr false))else some (.inl ()) partial_fixpoint
end
def IQ (a:ae) (r:Bool):Prop:=IS 41 a r
inductive pz:ae->Int->Ij->Prop
 | mk (YH:ae->Option (Bool)) (abe:∀a0 r,YH a0=some r->IQ a0 r) (wI:ae->Int->Option Ij) (Sl:∀a0 lk o,wI a0 lk=some o->pz a0 lk o) (a0:ae) (lk:Int) (o:(Unit) ⊕ tN) (h:(
 (if lk<(a0.aj.length:Int)then
 idx a0.aj lk>>=λnx=>
 m23 nx.aS>>=λvS=>
 (if vS=true then
 (if nx.aS.bh=true then
 DB a0 nx.aS>>=λLC=>
 (if LC=lk then
 idx a0.aj lk>>=λTm=>
 YH Tm.bE>>=λSk=>
 (if Sk=true then
 wI a0 (aP (lk+1))
 else
 some (.inr (.inr false)))
 else
 some (.inr (.inr false)))
 else
 (if nx.aS.aY>=a0.cj then
 some (.inr (.inr false))
 else
 DB a0 nx.aS>>=λv53=>
 (if v53=lk then
 idx a0.aj lk>>=λTn=>
 YH Tn.bE>>=λXA=>
 (if XA=true then
 wI a0 (aP (lk+1))
 else
 some (.inr (.inr false)))
 else
 some (.inr (.inr false)))))
 else
 some (.inr (.inr false)))
 else
 some (.inl ()))
 )=some o):pz a0 lk o
theorem Pm:(∀a r,Oc a=some r->IQ a r)/\(∀a b o,pt a b=some o->pz a b o):=by
 refine Oc.mutual_partial_correctness IQ pz ?_ ?_;intro _ q a r h;refine cA Tryz.func41 ?_;refine .d ?_;obtain⟨o1,h,iL⟩:=bd h;refine .cut (λσ η=>.inl ()=o1/\σ=[(1,.aE 0 0 0 0)]/\η=[.row 0 5 1 33 (λ_=>a.lit)]) ?_ ?_;refine .d ⟨rfl,rfl,_,rfl,(sN h (λs h=>?_) (λs h=>?_))⟩;refine⟨rfl,(.t ⟨rfl,_,rfl,(.t (.t (L6 h (λu h=>?_) (λu h=>?_))))⟩)⟩;refine .t (.t (.t (.t (.t (.t (.d ?_))))));exact adB;refine⟨rfl,(.f ⟨rfl,_,rfl,(.f (.f (sN h (λv h=>?_) (λv h=>?_))))⟩)⟩;refine⟨rfl,(.t ⟨rfl,_,rfl,(.t (.t (sN h (λw h=>?_) (λw h=>?_))))⟩)⟩;refine .t (.t (.t (.t (.t (.f (.t (.f (.t (.d ?_)))))))));exact adB;refine⟨rfl,(.f ⟨rfl,_,rfl,(.f (.f (.t (.f (.f (.t (.f (sD h (λx h=>?_) (λx h=>?_)))))))))⟩)⟩;refine .d ?_;exact adB;exact aeA;exact aeu;refine .f (.f (.f (.f ⟨rfl,(.f ⟨rfl,_,rfl,(.f (.f (sN h (λy h=>?_) (λy h=>?_))))⟩)⟩)));refine⟨rfl,(.t ⟨rfl,_,rfl,(.t (.t (sN h (λz h=>?_) (λz h=>?_))))⟩)⟩;refine .t (.t (.t (.t (.t (.f (.t (.f (.t (.d ?_)))))))));exact adB;refine⟨rfl,(.f ⟨rfl,_,rfl,(.f (.f (.t (.f (.f (.t (.f (sD h (λA h=>?_) (λA h=>?_)))))))))⟩)⟩;refine .d ?_;exact adB;exact aeA;exact aeu;rintro _ _ ⟨rfl,rfl,rfl⟩;obtain⟨B,h,gQ⟩:=bd iL;refine .cut (λσ η=>.inl ()=B/\σ=[]/\η=[]) ?_ ?_;refine .d ⟨rfl,rfl,_,rfl,(.d (sE h (λC h=>?_) (λC h=>?_)))⟩;refine .d ⟨rfl,rfl,_,rfl,?_⟩;exact adA;refine .d (sE h (λD h=>?_) (λD h=>?_));refine .d ⟨rfl,rfl,_,rfl,(bk h λqR E h=>(aT (oX E) ?_))⟩;exact adA;refine .d (sE h (λF h=>?_) (λF h=>?_));refine .d ⟨rfl,rfl,_,rfl,(bk h λG H h=>(aT (oX H) ?_))⟩;exact adA;refine .d (sE h (λI h=>?_) (λI h=>?_));refine .d ⟨rfl,rfl,_,rfl,(sE h (λJ h=>?_) (λJ h=>?_))⟩;refine⟨rfl,(.t ⟨rfl,_,rfl,(.t (.t (.t ?_)))⟩)⟩;exact adA;refine .f (.f (.f (.f ?_)));exact adA;obtain⟨e,h,K⟩:=bd h;refine .cut (λσ η=>∃g,g=e/\σ=[(1,.aE 0 0 0 0),(30,pI a.aD),(57,.bool g)]/\η=[.row 0 5 1 33 (λ_=>a.lit)]) ?_ ?_;refine .d (sE h (λL h=>?_) (λL h=>?_));exact aeq;refine .d (sE h (λM h=>?_) (λM h=>?_));exact aeq;exact aeq;rintro _ _ ⟨g,rfl,rfl,rfl⟩;refine sV K (λN h=>?_) (λN h=>?_);refine .d ⟨rfl,rfl,_,rfl,(bk h λO P h=>(aT (oX P) ?_))⟩;exact adA;refine .d (sE h (λQ h=>?_) (λQ h=>?_));refine .d (.d ⟨rfl,rfl,_,rfl,(sN h (λR h=>?_) (λR h=>?_))⟩);refine .t (.t (.t (.t (.t (.d ?_)))));exact adA;refine⟨rfl,(.f ⟨rfl,_,rfl,(.f (bk h λzo S h=>(aT (oX S) (.f (.f (kV h (λT h=>?_) (λT h=>?_)))))))⟩)⟩;refine .d ?_;exact adA;obtain⟨i,h,DH⟩:=bd h;refine .cut (λσ η=>.inl ()=i/\σ=[]/\η=[]) ?_ ?_;refine .d ?_;have U:=q _ _ _ h;refine le (pz.rec (motive:=λc b j _=>a=c->i=j->aG _ _ [(1,.aE 0 0 0 0),(3,pI b)] [.row 0 5 1 33 (λ_=>a.lit)]) ?_ U rfl rfl) (tk [0] BY nY);intro _ k _ _ c b j h l  V W;subst V;subst W;refine aG.round (.d (.d ⟨rfl,rfl,_,rfl,(sD h (λX h=>?_) (λX h=>?_))⟩));refine .d (.d ⟨rfl,rfl,_,rfl,(bk h λY m h=>⟨ba m,_,(aQ m).trans (af.aC Y),rfl,_,_,rfl,au,(.d ⟨rfl,_,rfl,(bk h λvS Z h=>(aT (YG Z) (kV h (λIY h=>?_) (λIY h=>?_))))⟩)⟩)⟩);refine .t (.t (.t (.t (.t (.t (.t (.t (.t (.t (.t (.t (.t (.t (.t ?_))))))))))))));refine .t (.t (.t (.t (.t (.t (.d ?_))))));obtain rfl:=si h;exact aej;refine⟨rfl,(.f ⟨rfl,_,rfl,(.f (.f (kV h (λIZ h=>?_) (λIZ h=>?_))))⟩)⟩;refine⟨rfl,(.t ⟨rfl,_,rfl,(.t ⟨rfl,(.t ⟨rfl,_,rfl,(.t (.f (.t (.f (sD h (λDI h=>?_) (λDI h=>?_))))))⟩)⟩)⟩)⟩;refine .t (.t (.t (.t (.t (.t (.t (.t (.t (.t (.t (.t (.t (.t (.t ?_))))))))))))));refine .d ?_;obtain rfl:=si h;exact aej;refine⟨rfl,_,rfl,(.f ⟨rfl,_,rfl,(.f (bk h λaa I0 h=>(aT (IE I0) (.f (.f (.f (sN h (λYM h=>?_) (λYM h=>?_))))))))⟩)⟩;refine .t (.t (.t (.t (.t (.t (.t (.t (.t (.d ?_)))))))));obtain rfl:=si h;exact aej;refine⟨rfl,(.f ⟨rfl,_,rfl,(.f (.f (bk h λTn n h=>⟨ba n,_,(aQ n).trans (af.aC Tn),(.f (.f (.f (bk h λXA YN h=>(aT (k _ _ YN) (.f (.f (kV h (λPq h=>?_) (λPq h=>?_)))))))))⟩)))⟩)⟩;refine .d ?_;obtain rfl:=si h;exact aej;exact lg (l _ _ _ h rfl rfl) (tk [0] BY nY);refine .f (.f (.f (.f (.f (.f (.f (.f ⟨rfl,_,rfl,(.f ⟨rfl,_,rfl,(.f (bk h λLC Pr h=>(aT (IE Pr) (.f ?_))))⟩)⟩)))))));refine .f (.f (sN h (λYO h=>?_) (λYO h=>?_)));refine .t (.t (.t (.t (.t (.t (.t (.t (.t (.d ?_)))))))));obtain rfl:=si h;exact aej;refine⟨rfl,(.f ⟨rfl,_,rfl,(.f (.f (bk h λTm p h=>⟨ba p,_,(aQ p).trans (af.aC Tm),(.f (.f (.f (bk h λSk Ps h=>(aT (k _ _ Ps) (.f (.f (kV h (λYP h=>?_) (λYP h=>?_)))))))))⟩)))⟩)⟩;refine .d ?_;obtain rfl:=si h;exact aej;exact lg (l _ _ _ h rfl rfl) (tk [0] BY nY);exact aes;rintro _ _ ⟨rfl,rfl,rfl⟩;replace h:=DH;refine .d ?_;exact adA;exact aes;rintro _ _ ⟨rfl,rfl,rfl⟩;exact .d (eB gQ);intro F0 F1 Ay Az a b o h;exact .mk F0 Ay F1 Az a b o h
theorem YQ {a:ae} {r:Bool} (h:Oc a=some r):IS 41 a r:=Pm.1 a r h
def m22 (a:ae):Option (Bool):=Oa a 200>>=λb=>if b<=200 then Oc a>>=λc=>some c else some false
theorem YR {a:ae} {r:Bool} (h:m22 a=some r):IS 10 a r:=by
 refine cA Tryz.func10 ?_;unfold m22 at h;refine .d (.d ⟨rfl,_,rfl,(bk h λf b h=>(aT (Yy b) (sD h (λc h=>?_) (λc h=>?_))))⟩);exact⟨rfl,_,rfl,(.t (bk h λg e h=>(aT (YQ e) (.t (eB h)))))⟩;exact aeG
mutual
def Ik (a:ae):Option (ae):=(ru a ([]:List af) 0:Option ((List af)))>>=λl1=>some (ae.mk a.aD a.aY a.bz a.cj l1) partial_fixpoint
def ru (a:ae) (c:List af) (b:Int):Option ((List af)):=if b<(a.aj.length:Int)then idx a.aj b>>=λd=>Ik d.bE>>=λe=>eE 96 c ([(af.mk d.aS e)]:List af)>>=λf=>ru a f (aP (b+1))else some c partial_fixpoint
end
def DJ (a:ae) (r:ae):Prop:=ACall Tryz.prog 149 [.agg a.lit] [] (λres h=>res=.agg r.lit/\h=[])
inductive pB:ae->(List af)->Int->((List af))->Prop
 | mk (To:ae->Option (ae)) (aa4:∀a0 r,To a0=some r->DJ a0 r) (BZ:ae->(List af)->Int->Option ((List af))) (So:∀a0 l5 y6 o,BZ a0 l5 y6=some o->pB a0 l5 y6 o) (a0:ae) (l5:List af) (y6:Int) (o:(List af)) (h:(
 (if y6<(a0.aj.length:Int)then
 idx a0.aj y6>>=λtT=>
 To tT.bE>>=λkO=>
 eE 96 l5 ([(af.mk tT.aS kO)]:List af)>>=λuM=>
 BZ a0 uM (aP (y6+1))
 else
 some l5)
 )=some o):pB a0 l5 y6 o
theorem Pt:(∀a r,Ik a=some r->DJ a r)/\(∀a b c o,ru a b c=some o->pB a b c o):=by
 refine Ik.mutual_partial_correctness DJ pB ?_ ?_;intro _ p a r h;refine cA Tryz.func149 ?_;refine .d (.d ⟨rfl,_,rfl,rfl,_,_,rfl,au,(.d ⟨rfl,rfl,_,_,rfl,au,?_⟩)⟩);obtain⟨i,h,kr⟩:=bd h;refine .cut (λσ η=>∃l1,l1=i/\σ=[(2,.aE 0 0 0 0),(3,.aE 1 0 0 0)]/\η=[.row 0 5 1 33 (λ_=>[pI 0,pI 0,.str [],pI 0,.aF]),.row 0 5 1 33 (λ_=>[pI a.aD,pI a.aY,.str a.bz,pI a.cj,.own 2 0 0 l1.length]),.row 0 8 l1.length 104 (row af.cells l1)]) ?_ ?_;refine .d ⟨rfl,rfl,_,rfl,?_⟩;have q:=p _ _ _ _ h;refine le (pB.rec (motive:=λj b c k _=>a=j->i=k->aG _ _ [(2,.aE 0 0 0 0),(3,.aE 1 0 0 0),(9,sl 8 af.cells a.aj),(10,pI (a.aj.length:Int)),(11,pI c)] [.row 0 5 1 33 (λ_=>[pI 0,pI 0,.str [],pI 0,.aF]),.row 0 5 1 33 (λ_=>[pI a.aD,pI a.aY,.str a.bz,pI a.cj,.own 2 0 0 b.length]),.row 0 8 b.length 104 (row af.cells b)]) ?_ q rfl rfl) (tk [1,2,5] L7 Tp);intro _ s _ _ j b c k h t  u v;subst u;subst v;refine aG.round (.d (.d (sD h (λw h=>?_) (λw h=>?_))));refine .d (.d (bk h λe m h=>⟨ba m,_,(aQ m).trans (af.aC e),rfl,_,_,rfl,au,(.float [(0,true),(1,true),(2,true),(3,true),(4,true),(5,true),(6,false),(7,true),(8,false),(9,false),(10,true),(11,false)] aeV ?_)⟩));refine⟨rfl,rfl,_,rfl,rfl,rfl,_,rfl,rfl,rfl,_,rfl,(bk h λf x h=>(aT (s _ _ x) ⟨rfl,rfl,rfl,rfl,row af.cells ([(af.mk e.aS f)]:List af),aM af.cells ([(af.mk e.aS f)]:List af) rfl (cq (af.aC _) ⟨.same _,.same _,.same _,.same _,.same _,.same _,.same _,.same _,trivial⟩ trivial),rfl,rfl,?_⟩))⟩;exact bk h λn g h=>(.dS ⟨rfl,rfl,dT (l:=([(af.mk e.aS f)]:List af)) aw,bB g,n.length,row af.cells n,a6 g,bb g aw (cN aw),rfl,rfl,_,_,rfl,au,(lg (t _ _ _ _ h rfl rfl) (tk [0,1,2] L7 L8))⟩);exact ct ⟨_,si h,rfl,rfl⟩ (tk [0,1,2] DK L8);rintro _ _ ⟨l1,rfl,rfl,rfl⟩;replace h:=kr;refine .d ⟨rfl,_,rfl,rfl,_,_,rfl,au,?_⟩;exact aea;intro y z A B a b c o h;exact .mk y A z B a b c o h
theorem L9 {a:ae} {r:ae} (h:Ik a=some r):ACall Tryz.prog 149 [.agg a.lit] [] (λres h=>res=.agg r.lit/\h=[]):=Pt.1 a r h
theorem ACall.ext {P:Program} {f:FuncId} {args:List PV} {r:PV} (g:Tq P f)
  (H:∀(w:World) (vs:Array Value) (S:Nat->Prop),GW S w->(∀b,S b->b<w.heap.size)->vs.size=args.length->(∀(j:Nat) (pv:PV),args[j]? =some pv->∃v,vs[j]? =some v/\aI S w pv v)->
   Calls P f vs w (λe w'=>∃v,e=.returned v/\(∀μ h S w,bg μ h S w r v)/\Below w.heap.size w w'))
  (hp:args.all sg=true) (h:List ai):ACall P f args h (λres h'=>res=r/\h'=h):=by
 refine⟨g,λw vs μ S i c k l=>(H w vs S c.known c.slt k (λj pv hj=>?_)).mono ?_⟩
 ·obtain⟨v,h1,h2⟩:=l j pv hj;have m:=abw.1 hp pv (abA hj);cases pv<;>first | exact⟨v,h1,h2⟩ | (simp [sg]at m)
 ·rintro e w' ⟨v,rfl,hv,a⟩;have d:bR w w':=⟨a.block,a.size,a.os,a.tape,a.output⟩;exact⟨v,r,h,μ,S,rfl,⟨rfl,rfl⟩,hv _ _ _ _,i.agree d c,c.agree d,Fr.pC d⟩
theorem Od {vs:Array Value} {a:Value} (hs:vs.size=1) (h0:vs[0]? =some a):vs=#[a]:=by
 obtain⟨l⟩:=vs;rcases l with _ | ⟨b,_ | ⟨c,l⟩⟩<;>simp at hs;simp at h0;subst h0;rfl
theorem B0 {vs:Array Value} {a b:Value} (hs:vs.size=2) (h0:vs[0]? =some a) (h1:vs[1]? =some b):vs=#[a,b]:=by
 obtain⟨l⟩:=vs;rcases l with _ | ⟨x,_ | ⟨y,_ | ⟨z,l⟩⟩⟩<;>simp at hs;simp at h0 h1;subst h0;subst h1;rfl
theorem Oe {vs:Array Value} {a b c:Value} (hs:vs.size=3) (h0:vs[0]? =some a) (h1:vs[1]? =some b) (h2:vs[2]? =some c):vs=#[a,b,c]:=by
 obtain⟨l⟩:=vs;rcases l with _ | ⟨x,_ | ⟨y,_ | ⟨z,_ | ⟨u,l⟩⟩⟩⟩<;>simp at hs;simp at h0 h1 h2;subst h0;subst h1;subst h2;rfl
theorem DL {P:Program} {w:World} {n:String} {g:Nat} {cs:Array Value} {t:TypeId} {z:Nat×Nat} (hg:P.globalNamed n=some g) (h:w.heap[g]? =some (.cells cs t z)):w.var? P n=some cs:=by
 unfold World.var?;rw[hg];simp [h]
theorem Pu:Tryz.prog.globalNamed "internal/strconv.uint64pow10" =some 3:=by kernel_rfl
theorem Pv:Tryz.prog.globalNamed "strconv.ErrSyntax" =some 1:=by kernel_rfl
theorem Pw:Tryz.prog.globalNamed "strconv.ErrRange" =some 2:=by kernel_rfl
theorem I1:Lib.pow10Tab=B1:=by decide
theorem Ft {S:Nat->Prop} {w:World} (h:GW S w):Lib.TabIs Tryz.prog w "internal/strconv.uint64pow10" .u64 Lib.pow10Tab:=by
 obtain⟨_,t,z,hh⟩:=h.1 (3,_) (by simp [AE];rfl);unfold Lib.TabIs;rw[DL Pu hh,I1]
theorem Ma {S:Nat->Prop} {w:World} (h:GW S w):∃b p,w.var? Tryz.prog "strconv.ErrSyntax" =some #[.iface b p]:=by
 obtain⟨_,b,p,t,z,hh⟩:=h.2.1 1 (by simp [sh]);exact⟨b,p,DL Pv hh⟩
theorem Mb {S:Nat->Prop} {w:World} (h:GW S w):∃b p,w.var? Tryz.prog "strconv.ErrRange" =some #[.iface b p]:=by
 obtain⟨_,b,p,t,z,hh⟩:=h.2.1 2 (by simp [sh]);exact⟨b,p,DL Pw hh⟩
theorem wN (w:World) (k:Nat) (os:Array Obj):Below w.heap.size w (Sort.grow (w.drewN k) os):=by
 refine⟨rfl,rfl,rfl,?_,λi hi=>?_⟩
 ·show w.heap.size<=(w.heap++os).size;simp
 ·show(w.heap++os)[i]? =w.heap[i]?;rw[abX hi]
theorem Mc (n:Int) (h0: -9223372036854775808<=n) (h1:n<=9223372036854775807) (h:List ai):ACall Tryz.prog 224 [.int .i64 n] h (λres h'=>res=.str (Lib.itoa n)/\h'=h):=by
 refine ACall.ext ⟨_,_,Tryz.func224,rfl,by kernel_rfl⟩ (λw vs S a c b hj=>?_) rfl h;obtain⟨v,hv,hp⟩:=hj 0 _ rfl;cases hp;obtain rfl:=Od b hv;refine(Tryz.strconv_Itoa n h0 h1 w (Ft a)).mono ?_;rintro e w' ⟨rfl,k,os,rfl⟩;exact⟨_,rfl,λ_ _ _ _=>.str _,wN _ _ _⟩
theorem AF (s p:List UInt8) (h:List ai):ACall Tryz.prog 185 [.str s,.str p] h (λres h'=>res=.bool (Lib.hasPrefix s p)/\h'=h):=by
 refine ACall.ext ⟨_,_,Tryz.func185,rfl,by kernel_rfl⟩ (λw vs S d f a hj=>?_) rfl h;obtain⟨v,hv,hp⟩:=hj 0 _ rfl;cases hp;obtain⟨g,b,c⟩:=hj 1 _ rfl;cases c;obtain rfl:=B0 a hv b;refine(Tryz.strings_HasPrefix ⟨⟨s⟩⟩ ⟨⟨p⟩⟩ w).mono ?_;rintro e w' ⟨rfl,rfl⟩;exact⟨_,rfl,λ_ _ _ _=>.bool _,Below.refl _ _⟩
def pw (s:List UInt8) (lo hi:Int):Option Int:=
 if 20<s.length then none else match Lib.atoiAll s with
  | .ok n=>if Lib.itoa n=s/\lo<=n/\n<=hi then some n else none
  | _=>none
def pwR (o:Option Int):PV:=match o with | some n=>.eC [.int .i64 n,.bool true] | none=>.eC [.int .i64 0,.bool false]
def pwV (o:Option Int):Value:=match o with | some n=>.tuple #[.int .i64 n,.bool true] | none=>.tuple #[.int .i64 0,.bool false]
set_option maxRecDepth 100000 in
theorem sj (s:ByteArray) (lo hi:Int) (w:World) (S:Nat->Prop) (d:GW S w) (l:∀b,S b->b<w.heap.size):
  Calls Tryz.prog 223 #[.string s,.int .i64 lo,.int .i64 hi] w λe w'=>e=.returned (pwV (pw s.data.toList lo hi))/\Below w.heap.size w w':=by
 have hlen:s.data.toList.length=s.size:=rfl;by_cases u:20<s.size
 ·have c:pw s.data.toList lo hi=none:=by unfold pw;rw[An aeP]
  rw[c]
  go_enter Tryz.func223,Tryz.ntmps223
  go_wp2
  go_ret2
  exact⟨rfl,Below.refl _ _⟩
 ·cases h:Lib.atoiAll s.data.toList with
  | range=>
   have c:pw s.data.toList lo hi=none:=by unfold pw;rw[so aeP,h]
   rw[c];obtain⟨f,p,hv⟩:=Mb d
   go_enter Tryz.func223,Tryz.ntmps223
   go_wp2_with (go_at_call 243;refine(Tryz.strconv_Atoi_range_var s aeP h f p _ hv).mono ?_;rintro e w1 ⟨N,rfl,-,-,a⟩)
   go_ret2
   exact⟨rfl,a⟩
  | ok n=>
   obtain⟨m,o⟩:=Lib.atoiAll_bounds h
   have key:∀(r:Value) (w1 g:World),((w1=w\/∃t,w1=Lib.bytesWorld w 5 t)->Below w.heap.size w w1):=λr w1 g a=>by
    rcases a with rfl | ⟨t,rfl⟩
    ·exact Below.refl _ _
    ·exact Lib.bytesWorld_below _ _ _
   go_enter Tryz.func223,Tryz.ntmps223
   go_wp2_with (go_at_call 243;refine(Tryz.strconv_Atoi_ok s aeP n h _).mono ?_;rintro e w1 ⟨rfl,a⟩)
   go_wp2_with (go_at_call 224;refine(Tryz.strconv_Itoa n m o _ (Ft (d.dS (λb q=>(key undef _ w a).block b (l b q)) (λ_ a=>a)))).mono ?_;rintro e g ⟨rfl,k,os,rfl⟩)
   all_goals go_ret2
   all_goals refine⟨?_,(key undef _ w a).trans ((wN _ _ _).mono (key undef _ w a).size)⟩
   all_goals
    have i:s.toList=s.data.toList:=ByteArray.toList_eq s
    have j:pw s.data.toList lo hi=if Lib.itoa n=s.data.toList/\lo<=n/\n<=hi then some n else none:=by
     unfold pw;rw[so aeP,h]
    rw[j,<-i];clear i j h;split
    ·rename_i hc
     first
      | rfl
      | (exfalso;obtain⟨v,x,y⟩:=hc;first | omega | contradiction)
    ·rename_i hc
     first
      | rfl
      | (exfalso;apply hc;refine⟨?_,?_,?_⟩<;>first | assumption | omega)
  | _=>
   have c:pw s.data.toList lo hi=none:=by unfold pw;rw[so aeP,h]
   rw[c];obtain⟨f,p,hv⟩:=Ma d
   go_enter Tryz.func223,Tryz.ntmps223
   go_wp2_with (go_at_call 243;refine(Tryz.strconv_Atoi_syntax_var s aeP h f p _ hv).mono ?_;rintro e w1 ⟨N,rfl,-,-,a⟩)
   go_ret2
   exact⟨rfl,a⟩
theorem wO (s:List UInt8) (lo hi:Int) (h:List ai):ACall Tryz.prog 223 [.str s,.int .i64 lo,.int .i64 hi] h (λres h'=>res=pwR (pw s lo hi)/\h'=h):=by
 refine ACall.ext ⟨_,_,Tryz.func223,rfl,by kernel_rfl⟩ (λw vs S b c d hj=>?_) rfl h;obtain⟨o,f,a⟩:=hj 0 _ rfl;cases a;obtain⟨p,g,i⟩:=hj 1 _ rfl;cases i;obtain⟨q,k,l⟩:=hj 2 _ rfl;cases l;obtain rfl:=Oe d f g k;refine(sj ⟨⟨s⟩⟩ lo hi w S b c).mono ?_;rintro e w' ⟨rfl,m⟩;refine⟨_,rfl,λμ h S w=>?_,m⟩;show bg μ h S w (pwR (pw s lo hi)) (pwV (pw s lo hi));cases pw s lo hi with
 | some n=>
  refine⟨_,rfl,rfl,λj pv hj=>?_⟩
  match j with
  | 0=>cases hj;exact⟨_,rfl,.int _ _⟩
  | 1=>cases hj;exact⟨_,rfl,.bool _⟩
  | j+2=>simp at hj
 | none=>
  refine⟨_,rfl,rfl,λj pv hj=>?_⟩
  match j with
  | 0=>cases hj;exact⟨_,rfl,.int _ _⟩
  | 1=>cases hj;exact⟨_,rfl,.bool _⟩
  | j+2=>simp at hj
def Og (s:aB) (lo hi:Int):Option (Int×Bool):=match pw s lo hi with | some n=>some (n,true) | none=>some (0,false)
theorem Ts {s:aB} {lo hi:Int} {r:Int×Bool} (h:Og s lo hi=some r):ACall Tryz.prog 223 [.str s,.int .i64 lo,.int .i64 hi] [] (λres h=>res=.eC [.int .i64 r.1,.bool r.2]/\h=[]):=by
 refine(wO s lo hi []).mono ?_;rintro _ _ ⟨rfl,rfl⟩;unfold Og at h;split at h
 ·rename_i n e;rw[e];cases h;exact⟨rfl,rfl⟩
 ·rename_i e;rw[e];cases h;exact⟨rfl,rfl⟩
def XB (n:Int):Option aB:=if -9223372036854775808<=n/\n<=9223372036854775807 then some (Lib.itoa n)else none
theorem YU {n:Int} {r:aB} (h:XB n=some r):ACall Tryz.prog 224 [.int .i64 n] [] (λres h=>res=.str r/\h=[]):=by
 obtain⟨⟨h0,h1⟩,rfl⟩:=cC h;exact Mc n h0 h1 []
def YV (s p:aB):Option Bool:=some (Lib.hasPrefix s p)
theorem YW {s p:aB} {r:Bool} (h:YV s p=some r):ACall Tryz.prog 185 [.str s,.str p] [] (λres h=>res=.bool r/\h=[]):=by
 cases h;exact AF s p []
def LD (a:aB):Option (Int×Bool):=Og a (-1000000000) 1000000000>>=λ(b,c)=>some (b,c)
theorem Px {a:aB} {r:Int×Bool} (h:LD a=some r):Xz 180 a r:=by
 refine cA Tryz.func180 ?_;unfold LD at h;refine .d (.d ?_);obtain⟨⟨c,e⟩,b,h⟩:=bd h;refine aT (Ts b) ?_;exact adO
def Sp (a:aL):Option (Bool):=if a.bh=true then LD a.bz>>=λ(d,b)=>if a.aY=0 then if(a.bz.length:Int)<=400 then some (!b)else some false else some false else if a.bz=([]:aB)then Dx a.aY (-1000000000) 1000000000>>=λc=>some c else some false
theorem YX {a:aL} {r:Bool} (h:Sp a=some r):ACall Tryz.prog 138 [.agg a.lit] [] (λres h=>res=.bool r/\h=[]):=by
 refine cA Tryz.func138 ?_;unfold Sp at h;refine .d (.d (.d ⟨rfl,rfl,_,rfl,(kV h (λb h=>?_) (λb h=>?_))⟩));refine .d ⟨rfl,rfl,_,rfl,(sE h (λc h=>?_) (λc h=>?_))⟩;exact⟨rfl,(.t ⟨rfl,_,rfl,(.t (bk h λk e h=>(aT (Dy e) (.t (eB h)))))⟩)⟩;exact .f (.f (.f (eB h)));refine .d ⟨rfl,rfl,_,rfl,?_⟩;obtain⟨⟨l,m⟩,g,h⟩:=bd h;refine aT (Px g) (.d ⟨rfl,rfl,_,rfl,(sE h (λi h=>?_) (λi h=>?_))⟩);refine⟨rfl,(.t ⟨rfl,_,rfl,(.t (.t (.t (sD h (λj h=>?_) (λj h=>?_)))))⟩)⟩;exact .t (.t (eB h));exact aeG;exact .f (.f (.f (.f (.f (.f (.f (eB h)))))))
def LF (f:aA):Option (ae×aA):=qQ f 8>>=λ(a,b)=>if a=0 then some ((ae.mk 0 0 [] 0 []),b)else if a=1 then vR b 2>>=λ(g,h)=>Dz g>>=λi=>some (i,h)else((if a=2 then some (a==2)else some (a==3)):Option (Bool))>>=λj=>if j then BT b>>=λ(k,l)=>some ((ae.mk 3 0 k 0 []),l)else if a=4 then L3 b ([0,1,(-1),5,10,999999999,1000000000,(-1000000000)]:List Int)>>=λ(c,d)=>some ((ae.mk 2 c [] 0 []),d)else qQ b 20>>=λ(e,m)=>some ((ae.mk 2 (aP (e - 5)) [] 0 []),m)
theorem Py {e:aA} {r:ae×aA} {ax:Nat} (h:LF e=some r):Pz 70 e r ax:=by
 refine cA Tryz.func70 ?_;unfold LF at h;refine .d (.d (.d ?_));obtain⟨⟨f,g⟩,i,h⟩:=bd h;refine dR (ph i) [0] ?_;refine .d (sE h (λj h=>?_) (λj h=>?_));refine .d ⟨rfl,_,_,rfl,au,?_⟩;exact adT;refine .d (sE h (λk h=>?_) (λk h=>?_));refine .d ?_;obtain⟨⟨x,y⟩,l,h⟩:=bd h;refine dR (wA l) [0] ?_;refine bk h λz m h=>(aT (Ta m) ⟨rfl,_,_,rfl,au,?_⟩);exact adU;obtain⟨n,h,gQ⟩:=bd h;refine .cut (λσ η=>∃a,a=n/\σ=[(0,.aE 0 ax 0 0),(2,.aE 1 0 0 0),(4,pI f),(13,.bool a)]/\η=[.row ax 3 1 94 (λ_=>g.lit),.row 0 5 1 33 (λ_=>[pI 0,pI 0,.str [],pI 0,.aF])]) ?_ ?_;refine .d (sE h (λo h=>?_) (λo h=>?_));exact aeE;exact aeE;rintro _ _ ⟨a,rfl,rfl,rfl⟩;refine sV gQ (λp h=>?_) (λp h=>?_);refine .d ?_;obtain⟨⟨q,A⟩,s,h⟩:=bd h;refine dR (IC s) [0] ?_;refine aT (oL q) ⟨rfl,_,_,rfl,au,?_⟩;exact adT;refine .d (sE h (λt h=>?_) (λt h=>?_));refine .d ⟨row cI ([0,1,(-1),5,10,999999999,1000000000,(-1000000000)]:List Int),aM cI ([0,1,(-1),5,10,999999999,1000000000,(-1000000000)]:List Int) rfl (aU rfl),?_⟩;obtain⟨⟨b,u⟩,v,h⟩:=bd h;refine r7 (IA v) [0,2] ⟨rfl,ov,⟨⟩⟩ ?_;refine aT (jP b) ⟨rfl,_,_,rfl,au,?_⟩;exact adT;refine .d ?_;obtain⟨⟨c,B⟩,w,h⟩:=bd h;refine dR (ph w) [0] ?_;refine aT (jP (aP (c - 5))) ⟨rfl,_,_,rfl,au,?_⟩;exact adT
theorem Tt {a:Bool} {r:ae} (h:Dz a=some r):ACall Tryz.prog 127 [.bool a] [] (λres h=>res=.agg [pI r.aD,pI r.aY,.str r.bz,pI r.cj,.own 0 0 0 r.aj.length]/\h=[.row 0 8 r.aj.length 104 (row af.cells r.aj)]):=by
 refine cA Tryz.func127 ?_;unfold Dz at h;refine .d (.d (.d (sV h (λb h=>?_) (λb h=>?_))));refine .d ⟨rfl,_,_,rfl,au,?_⟩;obtain rfl:=si h;exact⟨rfl,_,rfl,(en [1] ⟨rfl,rfl⟩ GZ ⟨gh,⟨⟩⟩)⟩;refine .d ⟨rfl,_,_,rfl,au,?_⟩;obtain rfl:=si h;exact⟨rfl,_,rfl,(en [1] ⟨rfl,rfl⟩ GZ ⟨gh,⟨⟩⟩)⟩
theorem Tu {f:aA} {r:ae×aA} {ax:Nat} (h:LF f=some r):ACall Tryz.prog 70 [.aE 0 ax 0 0] [.row ax 3 1 94 (λ_=>f.lit)] (λres h=>res=.agg [pI r.1.aD,pI r.1.aY,.str r.1.bz,pI r.1.cj,.own 1 0 0 r.1.aj.length]/\h=[.row ax 3 1 94 (λ_=>r.2.lit),.row 0 8 r.1.aj.length 104 (row af.cells r.1.aj)]):=by
 refine cA Tryz.func70 ?_;unfold LF at h;refine .d (.d (.d ?_));obtain⟨⟨g,i⟩,j,h⟩:=bd h;refine dR (ph j) [0] ?_;refine .d (sE h (λk h=>?_) (λk h=>?_));refine .d ⟨rfl,_,_,rfl,au,?_⟩;exact aef;refine .d (sE h (λl h=>?_) (λl h=>?_));refine .d ?_;obtain⟨⟨z,m⟩,n,h⟩:=bd h;refine dR (wA n) [0] ?_;refine bk h λa o h=>(G1 (Tt o) (.agg [pI a.aD,pI a.aY,.str a.bz,pI a.cj,.own 2 0 0 a.aj.length]) [.row ax 3 1 94 (λ_=>m.lit),.row 0 5 1 33 (λ_=>[pI 0,pI 0,.str [],pI 0,.aF]),.row 0 8 a.aj.length 104 (row af.cells a.aj)] ⟨rfl,_,_,rfl,au,?_⟩);exact aeg;obtain⟨p,h,gQ⟩:=bd h;refine .cut (λσ η=>∃b,b=p/\σ=[(0,.aE 0 ax 0 0),(2,.aE 1 0 0 0),(4,pI g),(13,.bool b)]/\η=[.row ax 3 1 94 (λ_=>i.lit),.row 0 5 1 33 (λ_=>[pI 0,pI 0,.str [],pI 0,.aF])]) ?_ ?_;refine .d (sE h (λq h=>?_) (λq h=>?_));exact aeE;exact aeE;rintro _ _ ⟨b,rfl,rfl,rfl⟩;refine sV gQ (λs h=>?_) (λs h=>?_);refine .d ?_;obtain⟨⟨t,A⟩,u,h⟩:=bd h;refine dR (IC u) [0] ?_;refine aT (oL t) ⟨rfl,_,_,rfl,au,?_⟩;exact aef;refine .d (sE h (λv h=>?_) (λv h=>?_));refine .d ⟨row cI ([0,1,(-1),5,10,999999999,1000000000,(-1000000000)]:List Int),aM cI ([0,1,(-1),5,10,999999999,1000000000,(-1000000000)]:List Int) rfl (aU rfl),?_⟩;obtain⟨⟨c,w⟩,x,h⟩:=bd h;refine r7 (IA x) [0,2] ⟨rfl,ov,⟨⟩⟩ ?_;refine aT (jP c) ⟨rfl,_,_,rfl,au,?_⟩;obtain rfl:=si h;exact⟨rfl,_,rfl,(en [0,4] ⟨rfl,rfl⟩ GZ Me)⟩;refine .d ?_;obtain⟨⟨e,B⟩,y,h⟩:=bd h;refine dR (ph y) [0] ?_;refine aT (jP (aP (e - 5))) ⟨rfl,_,_,rfl,au,?_⟩;exact aef
def Sq (a:ae) (b:aL) (e:ae):Option (ae):=(eE 96 ([]:List af) a.aj>>=λg=>some g:Option ((List af)))>>=λl1=>DB a b>>=λc=>(((if c>=0 then idx l1 c>>=λh=>some (.inr (ae.mk a.aD a.aY a.bz a.cj (l1.set c.toNat (af.mk h.aS e))))else some (.inl ())):Option ((Unit) ⊕ ae))>>=λi=>match i with | .inr r=>some r | .inl _=>eE 96 l1 ([(af.mk b e)]:List af)>>=λf=>(some ():Option (Unit))>>=λ_=>if b.bh=true then some (ae.mk a.aD a.aY a.bz a.cj f)else LA a.cj (aP (b.aY+1))>>=λd=>some (ae.mk a.aD a.aY a.bz d f))
theorem YY {a:ae} {c:aL} {e:ae} {r:ae} (h:Sq a c e=some r):ACall Tryz.prog 68 [.agg a.lit,.agg c.lit,.agg e.lit] [] (λres h=>res=.agg r.lit/\h=[]):=by
 refine cA Tryz.func68 ?_;unfold Sq at h;refine .d (.d ⟨rfl,_,rfl,rfl,_,_,rfl,au,?_⟩);obtain⟨t,h,kr⟩:=bd h;refine .cut (λσ η=>∃l1,l1=t/\σ=[(3,.aE 0 0 0 0),(4,.aE 1 0 0 0),(5,.aE 2 0 0 0),(6,.aE 3 0 0 0),(7,.aE 4 0 0 0)]/\η=[.row 0 5 1 33 (λ_=>a.lit),.row 0 3 1 100 (λ_=>c.lit),.row 0 5 1 33 (λ_=>e.lit),.row 0 5 1 33 (λ_=>[pI 0,pI 0,.str [],pI 0,.aF]),.row 0 5 1 33 (λ_=>[pI a.aD,pI a.aY,.str a.bz,pI a.cj,.own 5 0 0 l1.length]),.row 0 8 l1.length 104 (row af.cells l1)]) ?_ ?_;exact⟨row af.cells ([]:List af),aM af.cells ([]:List af) rfl (aU rfl),rfl,rfl,_,rfl,(bk h λn g h=>(.dS ⟨rfl,bB g,n.length,row af.cells n,a6 g,bb g aw sq,rfl,rfl,_,_,rfl,au,(ct ⟨_,si h,rfl,rfl⟩ (tk [0,1,2,3,4,5] I3 ⟨(sr rfl),(sr rfl),(sr rfl),(nb rfl ⟨.i,.i,.s,.i,.aF,⟨⟩⟩),(nb rfl ⟨.i,.i,.s,.i,.o,⟨⟩⟩),nw,⟨⟩⟩))⟩))⟩;rintro _ _ ⟨l1,rfl,rfl,rfl⟩;refine .d ⟨rfl,_,rfl,rfl,_,rfl,(bk kr λu v h=>(aT (IE v) ?_))⟩;obtain⟨w,h,q⟩:=bd h;refine .cut (λσ η=>.inl ()=w/\σ=[(4,.aE 0 0 0 0),(5,.aE 1 0 0 0),(6,.aE 2 0 0 0),(7,.aE 3 0 0 0)]/\η=[.row 0 3 1 100 (λ_=>c.lit),.row 0 5 1 33 (λ_=>e.lit),.row 0 5 1 33 (λ_=>[pI 0,pI 0,.str [],pI 0,.aF]),.row 0 5 1 33 (λ_=>[pI a.aD,pI a.aY,.str a.bz,pI a.cj,.own 4 0 0 l1.length]),.row 0 8 l1.length 104 (row af.cells l1)]) ?_ ?_;refine .d (sD h (λx h=>?_) (λx h=>?_));refine .d ⟨rfl,rfl,_,rfl,rfl,_,rfl,(bk h λj k h=>⟨rfl,ba k,_,abx _,rfl,rfl,_,row af.cells (l1.set u.toNat (af.mk j.aS e)),((aQ k).trans (af.aC j)),ss (tW k) (af.aC (af.mk j.aS e)) ⟨.same _,.same _,.same _,.same _,.same _,.same _,.same _,.same _,trivial⟩,(.d ⟨rfl,_,rfl,rfl,_,_,rfl,au,?_⟩)⟩)⟩;obtain rfl:=si h;obtain rfl:=si q;exact⟨rfl,_,rfl,(en [] ⟨rfl,rfl⟩ (.eg ⟨.i,.i,.s,.i,(.rx ln),⟨⟩⟩) ⟨⟩)⟩;exact ct ⟨si h,rfl,rfl⟩ (tk [1,2,3,4,5] ⟨.p,.p,.p,.p,⟨⟩⟩ ⟨(sr rfl),(sr rfl),(nb rfl ⟨.i,.i,.s,.i,.aF,⟨⟩⟩),(nb rfl ⟨.i,.i,.s,.i,.o,⟨⟩⟩),nw,⟨⟩⟩);rintro _ _ ⟨rfl,rfl,rfl⟩;refine .d ⟨rfl,rfl,_,rfl,rfl,_,rfl,rfl,_,rfl,row af.cells ([(af.mk c e)]:List af),aM af.cells ([(af.mk c e)]:List af) rfl (cq (af.aC _) ⟨.same _,.same _,.same _,.same _,.same _,.same _,.same _,.same _,trivial⟩ trivial),(bk q λf m h=>(.dS ⟨rfl,rfl,dT (l:=([(af.mk c e)]:List af)) aw,bB m,f.length,row af.cells f,a6 m,bb m aw (cN aw),rfl,rfl,_,_,rfl,au,(.d ?_)⟩))⟩;obtain⟨y,h,z⟩:=bd h;refine .cut (λσ η=>()=y/\σ=[(4,.aE 0 0 0 0),(6,.aE 1 0 0 0),(7,.aE 2 0 0 0),(37,.bool (!c.bh))]/\η=[.row 0 3 1 100 (λ_=>c.lit),.row 0 5 1 33 (λ_=>[pI 0,pI 0,.str [],pI 0,.aF]),.row 0 5 1 33 (λ_=>[pI a.aD,pI a.aY,.str a.bz,pI a.cj,.own 3 0 0 f.length]),.row 0 8 f.length 104 (row af.cells f)]) ?_ ?_;exact⟨rfl,rfl,_,rfl,(ct ⟨si h,rfl,rfl⟩ (tk [0,2,3,4] ⟨.p,.p,.p,.b,⟨⟩⟩ ⟨(sr rfl),(nb rfl ⟨.i,.i,.s,.i,.aF,⟨⟩⟩),(nb rfl ⟨.i,.i,.s,.i,.o,⟨⟩⟩),nw,⟨⟩⟩))⟩;rintro _ _ ⟨rfl,rfl,rfl⟩;replace h:=z;refine kV h (λA h=>?_) (λA h=>?_);refine⟨rfl,rfl,_,rfl,rfl,rfl,_,rfl,(bk h λB C h=>(aT (LY C) ⟨rfl,rfl,_,_,rfl,au,(.d ⟨rfl,_,rfl,rfl,_,_,rfl,au,?_⟩)⟩))⟩;exact aea;refine .d ⟨rfl,_,rfl,rfl,_,_,rfl,au,?_⟩;exact aea
set_option synthInstance.maxHeartbeats 400000
set_option synthInstance.maxSize 4000
mutual
def BK (d:aA) (e:Int):Option (ae×aA):=if e<=0 then LF d>>=λ(g,h)=>some (g,h)else vR d 3>>=λ(i,f)=>if i then(qQ f 5>>=λ(b,a)=>ll e a.fB a.fI a.fH 0 ([]:List af) b:Option XC)>>=λ(j,k,l,m,n)=>some ((ae.mk 4 0 [] m n),(aA.mk j k l))else LF f>>=λ(o,c)=>some (o,c) partial_fixpoint
def ll (e:Int) (l:List UInt8) (m:Int) (n:Int) (b:Int) (f:List af) (g:Int):Option XC:=if g>0 then LB (aA.mk l m n)>>=λ(c,t)=>(vR t 2>>=λ(u,a)=>(if u then if b<=1000000000 then some (a.fB,a.fI,a.fH,false,b,[])else some (a.fB,a.fI,a.fH,c.bh,c.aY,c.bz)else some (a.fB,a.fI,a.fH,c.bh,c.aY,c.bz)):Option ((List UInt8)×Int×Int×Bool×Int×aB))>>=λ(o,p,q,h,i,r)=>DB (ae.mk 4 0 [] b f) (aL.mk h i r)>>=λv=>if v<0 then BK (aA.mk o p q) (aP (e - 1))>>=λ(j,d)=>eE 96 f ([(af.mk (aL.mk h i r) j)]:List af)>>=λs=>if h then ll e d.fB d.fI d.fH b s (aP (g - 1))else LA b (aP (i+1))>>=λk=>ll e d.fB d.fI d.fH k s (aP (g - 1))else ll e o p q b f (aP (g - 1))else some (l,m,n,b,f) partial_fixpoint
end
def I4 (a:aA) (b:Int) (r:ae×aA):Prop:=∀ax:Nat,ACall Tryz.prog 33 [.aE 0 ax 0 0,pI b] [.row ax 3 1 94 (λ_=>a.lit)] (λres h=>res=.agg r.1.lit/\h=[.row ax 3 1 94 (λ_=>r.2.lit)])
inductive nD:Int->(List UInt8)->Int->Int->Int->(List af)->Int->XC->Prop
 | mk (G33:aA->Int->Option (ae×aA)) (abf:∀a0 a1 r,G33 a0 a1=some r->I4 a0 a1 r) (su:Int->(List UInt8)->Int->Int->Int->(List af)->Int->Option XC) (Sr:∀a1 zr zt uO oP lK uP o,su a1 zr zt uO oP lK uP=some o->nD a1 zr zt uO oP lK uP o) (a1:Int) (zr:List UInt8) (zt:Int) (uO:Int) (oP:Int) (lK:List af) (uP:Int) (o:(List UInt8)×Int×Int×Int×(List af)) (h:(
 (if uP>0 then
 LB (aA.mk zr zt uO)>>=λ(oY,B3)=>
 (
 vR B3 2>>=λ(BL,v46)=>
 (if BL=true then
 (if oP<=1000000000 then
 some (v46.fB,v46.fI,v46.fH,false,oP,[])
 else
 some (v46.fB,v46.fI,v46.fH,oY.bh,oY.aY,oY.bz))
 else
 some (v46.fB,v46.fI,v46.fH,oY.bh,oY.aY,oY.bz))
 :Option ((List UInt8)×Int×Int×Bool×Int×aB))>>=λ(BM,G2,G3,yP,yQ,AH)=>
 DB (ae.mk 4 0 [] oP lK) (aL.mk yP yQ AH)>>=λmu=>
 (if mu<0 then
 G33 (aA.mk BM G2 G3) (aP (a1 - 1))>>=λ(v53,rX)=>
 eE 96 lK ([(af.mk (aL.mk yP yQ AH) v53)]:List af)>>=λFu=>
 (if yP=true then
 su a1 rX.fB rX.fI rX.fH oP Fu (aP (uP - 1))
 else
 LA oP (aP (yQ+1))>>=λv59=>
 su a1 rX.fB rX.fI rX.fH v59 Fu (aP (uP - 1)))
 else
 su a1 BM G2 G3 oP lK (aP (uP - 1)))
 else
 some (zr,zt,uO,oP,lK))
 )=some o):nD a1 zr zt uO oP lK uP o
theorem I5:(∀w c r,BK w c=some r->I4 w c r)/\(∀c j k m e a g o,ll c j k m e a g=some o->nD c j k m e a g o):=by
 refine BK.mutual_partial_correctness I4 nD ?_ ?_;intro _ J w c r h ax;refine cA Tryz.func33 ?_;refine .d (.d (.d (sD h (λK h=>?_) (λK h=>?_))));refine .t (.t (.t (.t (.d ?_))));obtain⟨⟨v2,v3⟩,L,h⟩:=bd h;refine dR (Py L) [0] ?_;refine⟨rfl,_,_,rfl,au,?_⟩;exact adU;refine .f ?_;obtain⟨⟨v5,v6⟩,M,h⟩:=bd h;refine dR (wA M) [0] ?_;refine .f (.f (kV h (λN h=>?_) (λN h=>?_)));refine .d ?_;obtain⟨⟨v9,O⟩,P,h⟩:=bd h;refine dR (Py P) [0] ?_;refine⟨rfl,_,_,rfl,au,?_⟩;exact adU;refine .d (aT (kB) ⟨rfl,_,_,rfl,au,?_⟩);obtain⟨F,h,Q⟩:=bd h;refine .cut (λσ η=>∃x,∃y,∃z,∃A,∃v,(x,y,z,A,v)=F/\σ=[(4,.aE 1 0 0 0),(5,.aE 2 0 0 0)]/\η=[.row ax 3 1 94 (λ_=>[sl 1 cB x,pI y,pI z]),.row 0 5 1 33 (λ_=>[pI 0,pI 0,.str [],pI 0,.aF]),.row 0 5 1 33 (λ_=>[pI 4,pI 0,.str [],pI A,.own 3 0 0 v.length]),.row 0 8 v.length 104 (row af.cells v)]) ?_ ?_;refine .d ?_;obtain⟨⟨R,S⟩,T,h⟩:=bd h;refine dR (ph T) [0] ?_;have U:=J _ _ _ _ _ _ _ _ h;refine le (nD.rec (motive:=λG j k m e a g H _=>c=G->F=H->aG _ _ [(0,.aE 0 ax 0 0),(1,pI c),(4,.aE 1 0 0 0),(5,.aE 2 0 0 0),(6,pI g)] [.row ax 3 1 94 (λ_=>[sl 1 cB j,pI k,pI m]),.row 0 5 1 33 (λ_=>[pI 0,pI 0,.str [],pI 0,.aF]),.row 0 5 1 33 (λ_=>[pI 4,pI 0,.str [],pI e,.own 3 0 0 a.length]),.row 0 8 a.length 104 (row af.cells a)]) ?_ U rfl rfl) (tk [0,1,2,6] B4 PD);intro _ V _ _ G j k m e a g H h DO  W X;subst W;subst X;refine aG.round (.d (.d (sD h (λY h=>?_) (λY h=>?_))));refine .d (.d ?_);obtain⟨⟨oY,B3⟩,Z,h⟩:=bd h;refine dR (L4 Z) [0] ?_;refine⟨rfl,_,_,rfl,au,?_⟩;obtain⟨YZ,h,PG⟩:=bd h;refine .cut (λσ η=>∃B,∃C,∃D,∃p,∃q,∃u,(B,C,D,p,q,u)=YZ/\σ=[(0,.aE 0 ax 0 0),(1,pI c),(4,.aE 1 0 0 0),(5,.aE 2 0 0 0),(6,pI g),(7,.aE 4 0 0 0)]/\η=[.row ax 3 1 94 (λ_=>[sl 1 cB B,pI C,pI D]),.row 0 5 1 33 (λ_=>[pI 0,pI 0,.str [],pI 0,.aF]),.row 0 5 1 33 (λ_=>[pI 4,pI 0,.str [],pI e,.own 3 0 0 a.length]),.row 0 8 a.length 104 (row af.cells a),.row 0 3 1 100 (λ_=>[.bool p,pI q,.str u])]) ?_ ?_;refine .d ?_;obtain⟨⟨BL,aa⟩,I6,h⟩:=bd h;refine dR (wA I6) [0] ?_;refine sV h (λI7 h=>?_) (λI7 h=>?_);refine⟨rfl,(.t ⟨rfl,_,rfl,(.t (.t (sD h (λI8 h=>?_) (λI8 h=>?_))))⟩)⟩;exact⟨rfl,rfl,_,rfl,rfl,_,_,rfl,au,(ct ⟨_,_,_,_,_,_,si h,rfl,rfl⟩ (tk [0,1,2,3,4] G4 Ss))⟩;exact ct ⟨_,_,_,_,_,_,si h,rfl,rfl⟩ (tk [0,1,2,3,4] G4 Ss);exact .f (.f (.f (.f (ct ⟨_,_,_,_,_,_,si h,rfl,rfl⟩ (tk [0,1,2,3,4] G4 Ss)))));rintro _ _ ⟨B,C,D,p,q,u,rfl,rfl,rfl⟩;refine .d ⟨rfl,_,rfl,rfl,_,rfl,(bk PG λmu I9 h=>(Y0 (IE I9) ⟨.eg ⟨.i,.i,.s,.i,.r,⟨⟩⟩,.eg ⟨.b,.i,.s,⟨⟩⟩,⟨⟩⟩ (sD h (λDI h=>?_) (λDI h=>?_))))⟩;refine .d (.float [(0,true),(1,true),(2,true),(3,true),(4,true),(5,true),(6,false),(7,true),(8,false),(9,false),(10,true),(11,false)] aeV ?_);refine⟨rfl,rfl,_,rfl,rfl,_,rfl,?_⟩;obtain⟨⟨n,rX⟩,DT,h⟩:=bd h;refine dR (V _ _ _ DT _) [0] ?_;refine⟨rfl,rfl,rfl,row af.cells ([(af.mk (aL.mk p q u) n)]:List af),aM af.cells ([(af.mk (aL.mk p q u) n)]:List af) rfl (cq (af.aC _) ⟨.same _,.same _,.same _,.same _,.same _,.same _,.same _,.same _,trivial⟩ trivial),rfl,rfl,(bk h λI E h=>(.dS ⟨rfl,rfl,dT (l:=([(af.mk (aL.mk p q u) n)]:List af)) aw,bB E,I.length,row af.cells I,a6 E,bb E aw (cN aw),rfl,rfl,_,_,rfl,au,(.d ⟨rfl,rfl,_,rfl,(kV h (λJa h=>?_) (λJa h=>?_))⟩)⟩))⟩;exact⟨rfl,rfl,_,rfl,rfl,rfl,_,rfl,(bk h λad Jb h=>(aT (LY Jb) ⟨rfl,rfl,_,_,rfl,au,(lg (DO _ _ _ _ _ _ _ _ h rfl rfl) (tk [0,1,2,3] B4 Il))⟩))⟩;exact aey;exact aey;exact ct ⟨_,_,_,_,_,si h,rfl,rfl⟩ (tk [0,1,2,3] DK Il);rintro _ _ ⟨x,y,z,A,v,rfl,rfl,rfl⟩;replace h:=Q;refine .d ⟨rfl,_,rfl,rfl,_,_,rfl,au,?_⟩;exact adQ;intro F0 F1 Ay Az c j k m e a g o h;exact .mk F0 Ay F1 Az c j k m e a g o h
theorem Tw {a:aA} {b:Int} {r:ae×aA} {ax:Nat} (h:BK a b=some r):ACall Tryz.prog 33 [.aE 0 ax 0 0,pI b] [.row ax 3 1 94 (λ_=>a.lit)] (λres h=>res=.agg r.1.lit/\h=[.row ax 3 1 94 (λ_=>r.2.lit)]):=I5.1 a b r h ax
theorem Y1 {A:aA} {k:Int} {r:ae×aA} {ax:Nat} (h:BK A k=some r):ACall Tryz.prog 33 [.aE 0 ax 0 0,pI k] [.row ax 3 1 94 (λ_=>A.lit)] (λres h=>res=.agg [pI r.1.aD,pI r.1.aY,.str r.1.bz,pI r.1.cj,.own 1 0 0 r.1.aj.length]/\h=[.row ax 3 1 94 (λ_=>r.2.lit),.row 0 8 r.1.aj.length 104 (row af.cells r.1.aj)]):=by
 have I:=I5.2;refine cA Tryz.func33 ?_;unfold BK at h;refine .d (.d (.d (sD h (λJ h=>?_) (λJ h=>?_))));refine .t (.t (.t (.t (.d ?_))));obtain⟨⟨v2,v3⟩,K,h⟩:=bd h;refine dR (Tu K) [0] ?_;refine⟨rfl,_,_,rfl,au,?_⟩;exact aeg;refine .f ?_;obtain⟨⟨v5,v6⟩,L,h⟩:=bd h;refine dR (wA L) [0] ?_;refine .f (.f (kV h (λM h=>?_) (λM h=>?_)));refine .d ?_;obtain⟨⟨v9,N⟩,O,h⟩:=bd h;refine dR (Tu O) [0] ?_;refine⟨rfl,_,_,rfl,au,?_⟩;exact aeg;refine .d (aT (kB) ⟨rfl,_,_,rfl,au,?_⟩);obtain⟨B,h,P⟩:=bd h;refine .cut (λσ η=>∃n,∃o,∃p,∃q,∃m,(n,o,p,q,m)=B/\σ=[(4,.aE 1 0 0 0),(5,.aE 2 0 0 0)]/\η=[.row ax 3 1 94 (λ_=>[sl 1 cB n,pI o,pI p]),.row 0 5 1 33 (λ_=>[pI 0,pI 0,.str [],pI 0,.aF]),.row 0 5 1 33 (λ_=>[pI 4,pI 0,.str [],pI q,.own 3 0 0 m.length]),.row 0 8 m.length 104 (row af.cells m)]) ?_ ?_;refine .d ?_;obtain⟨⟨Q,R⟩,S,h⟩:=bd h;refine dR (ph S) [0] ?_;have T:=I _ _ _ _ _ _ _ _ h;refine le (nD.rec (motive:=λC D E F u a v G _=>k=C->B=G->aG _ _ [(0,.aE 0 ax 0 0),(1,pI k),(4,.aE 1 0 0 0),(5,.aE 2 0 0 0),(6,pI v)] [.row ax 3 1 94 (λ_=>[sl 1 cB D,pI E,pI F]),.row 0 5 1 33 (λ_=>[pI 0,pI 0,.str [],pI 0,.aF]),.row 0 5 1 33 (λ_=>[pI 4,pI 0,.str [],pI u,.own 3 0 0 a.length]),.row 0 8 a.length 104 (row af.cells a)]) ?_ T rfl rfl) (tk [0,1,2,6] B4 PD);intro _ U _ _ C D E F u a v G h DO  V W;subst V;subst W;refine aG.round (.d (.d (sD h (λX h=>?_) (λX h=>?_))));refine .d (.d ?_);obtain⟨⟨oY,B3⟩,Y,h⟩:=bd h;refine dR (L4 Y) [0] ?_;refine⟨rfl,_,_,rfl,au,?_⟩;obtain⟨Z,h,PG⟩:=bd h;refine .cut (λσ η=>∃w,∃x,∃y,∃e,∃g,∃j,(w,x,y,e,g,j)=Z/\σ=[(0,.aE 0 ax 0 0),(1,pI k),(4,.aE 1 0 0 0),(5,.aE 2 0 0 0),(6,pI v),(7,.aE 4 0 0 0)]/\η=[.row ax 3 1 94 (λ_=>[sl 1 cB w,pI x,pI y]),.row 0 5 1 33 (λ_=>[pI 0,pI 0,.str [],pI 0,.aF]),.row 0 5 1 33 (λ_=>[pI 4,pI 0,.str [],pI u,.own 3 0 0 a.length]),.row 0 8 a.length 104 (row af.cells a),.row 0 3 1 100 (λ_=>[.bool e,pI g,.str j])]) ?_ ?_;refine .d ?_;obtain⟨⟨BL,aa⟩,I6,h⟩:=bd h;refine dR (wA I6) [0] ?_;refine sV h (λI7 h=>?_) (λI7 h=>?_);refine⟨rfl,(.t ⟨rfl,_,rfl,(.t (.t (sD h (λI8 h=>?_) (λI8 h=>?_))))⟩)⟩;exact⟨rfl,rfl,_,rfl,rfl,_,_,rfl,au,(ct ⟨_,_,_,_,_,_,si h,rfl,rfl⟩ (tk [0,1,2,3,4] G4 Ss))⟩;exact ct ⟨_,_,_,_,_,_,si h,rfl,rfl⟩ (tk [0,1,2,3,4] G4 Ss);exact .f (.f (.f (.f (ct ⟨_,_,_,_,_,_,si h,rfl,rfl⟩ (tk [0,1,2,3,4] G4 Ss)))));rintro _ _ ⟨w,x,y,e,g,j,rfl,rfl,rfl⟩;refine .d ⟨rfl,_,rfl,rfl,_,rfl,(bk PG λmu I9 h=>(Y0 (IE I9) ⟨.eg ⟨.i,.i,.s,.i,.r,⟨⟩⟩,.eg ⟨.b,.i,.s,⟨⟩⟩,⟨⟩⟩ (sD h (λDI h=>?_) (λDI h=>?_))))⟩;refine .d (.float [(0,true),(1,true),(2,true),(3,true),(4,true),(5,true),(6,false),(7,true),(8,false),(9,false),(10,true),(11,false)] aeV ?_);refine⟨rfl,rfl,_,rfl,rfl,_,rfl,?_⟩;obtain⟨⟨c,rX⟩,DT,h⟩:=bd h;refine dR (U _ _ _ DT _) [0] ?_;refine⟨rfl,rfl,rfl,row af.cells ([(af.mk (aL.mk e g j) c)]:List af),aM af.cells ([(af.mk (aL.mk e g j) c)]:List af) rfl (cq (af.aC _) ⟨.same _,.same _,.same _,.same _,.same _,.same _,.same _,.same _,trivial⟩ trivial),rfl,rfl,(bk h λH z h=>(.dS ⟨rfl,rfl,dT (l:=([(af.mk (aL.mk e g j) c)]:List af)) aw,bB z,H.length,row af.cells H,a6 z,bb z aw (cN aw),rfl,rfl,_,_,rfl,au,(.d ⟨rfl,rfl,_,rfl,(kV h (λJa h=>?_) (λJa h=>?_))⟩)⟩))⟩;exact⟨rfl,rfl,_,rfl,rfl,rfl,_,rfl,(bk h λad Jb h=>(aT (LY Jb) ⟨rfl,rfl,_,_,rfl,au,(lg (DO _ _ _ _ _ _ _ _ h rfl rfl) (tk [0,1,2,3] B4 Il))⟩))⟩;exact aey;exact aey;exact ct ⟨_,_,_,_,_,si h,rfl,rfl⟩ (tk [0,1,2,3] DK Il);rintro _ _ ⟨n,o,p,q,m,rfl,rfl,rfl⟩;replace h:=P;refine .d ⟨rfl,_,rfl,rfl,_,_,rfl,au,?_⟩;obtain rfl:=si h;exact⟨rfl,_,rfl,(en [0,3] ⟨rfl,rfl⟩ Mf Mg)⟩
def Su (f:aA):Option (ae×aA):=BK f 3>>=λ(a,g)=>qQ g 14>>=λ(c,b)=>if c=0 then Si b>>=λ(h,i)=>some ((ae.mk a.aD h a.bz a.cj a.aj),i)else if c=1 then Si b>>=λ(d,j)=>some ((ae.mk a.aD a.aY a.bz d a.aj),j)else if c=2 then L3 b ([(-1),4,5,6,7,8,9]:List Int)>>=λ(k,l)=>some ((ae.mk k a.aY a.bz a.cj a.aj),l)else(some ():Option (Unit))>>=λ_=>if c=3 then LB b>>=λ(m,e)=>LF e>>=λ(n,o)=>eE 96 a.aj ([(af.mk m n)]:List af)>>=λp=>some ((ae.mk a.aD a.aY a.bz a.cj p),o)else if c=4 then qQ b 3>>=λ(q,r)=>qQ r 3>>=λ(s,t)=>some ((ae.mk (aP (6+q)) s [] 0 []),t)else some (a,b)
theorem Tx {g:aA} {r:ae×aA} {ax:Nat} (h:Su g=some r):Pz 34 g r ax:=by
 refine cA Tryz.func34 ?_;unfold Su at h;refine .d (.d ?_);obtain⟨⟨a,H⟩,m,h⟩:=bd h;refine dR (Y1 m) [0] ?_;refine⟨rfl,_,_,rfl,au,(.d (.d ?_))⟩;obtain⟨⟨j,n⟩,o,h⟩:=bd h;refine dR (ph o) [0] ?_;refine .d (sE h (λq h=>?_) (λq h=>?_));obtain⟨⟨I,J⟩,s,h⟩:=bd h;refine dR (Td s) [0] ?_;refine⟨rfl,rfl,_,_,rfl,au,(.d ⟨rfl,_,rfl,rfl,_,_,rfl,au,?_⟩)⟩;exact adQ;refine .d (sE h (λt h=>?_) (λt h=>?_));obtain⟨⟨u,K⟩,v,h⟩:=bd h;refine dR (Td v) [0] ?_;refine⟨rfl,rfl,_,_,rfl,au,(.d ⟨rfl,_,rfl,rfl,_,_,rfl,au,?_⟩)⟩;exact adQ;refine .d (sE h (λw h=>?_) (λw h=>?_));refine⟨row cI ([(-1),4,5,6,7,8,9]:List Int),aM cI ([(-1),4,5,6,7,8,9]:List Int) rfl (aU rfl),?_⟩;obtain⟨⟨L,M⟩,x,h⟩:=bd h;refine r7 (IA x) [0,4] ⟨rfl,ov,⟨⟩⟩ ?_;refine⟨rfl,rfl,_,_,rfl,au,(.d ⟨rfl,_,rfl,rfl,_,_,rfl,au,?_⟩)⟩;exact adQ;obtain⟨y,h,z⟩:=bd h;refine .cut (λσ η=>()=y/\σ=[(0,.aE 0 ax 0 0),(2,.aE 1 0 0 0),(3,.aE 2 0 0 0),(7,pI j),(24,.bool (j==3))]/\η=[.row ax 3 1 94 (λ_=>n.lit),.row 0 5 1 33 (λ_=>[pI 0,pI 0,.str [],pI 0,.aF]),.row 0 5 1 33 (λ_=>[pI a.aD,pI a.aY,.str a.bz,pI a.cj,.own 3 0 0 a.aj.length]),.row 0 8 a.aj.length 104 (row af.cells a.aj)]) ?_ ?_;exact ct ⟨si h,rfl,rfl⟩ (tk [0,1,3,2] ⟨.p,.p,.p,.i,.b,⟨⟩⟩ Il);rintro _ _ ⟨rfl,rfl,rfl⟩;refine sE z (λA h=>?_) (λA h=>?_);refine .float [(0,true),(1,true),(2,true),(4,true),(3,false),(5,false),(6,true),(7,false),(8,false),(9,true),(10,false)] aeV ?_;refine⟨rfl,rfl,_,rfl,?_⟩;obtain⟨⟨c,B⟩,C,h⟩:=bd h;refine dR (L4 C) [0] ?_;refine⟨rfl,rfl,?_⟩;obtain⟨⟨e,N⟩,D,h⟩:=bd h;refine dR (Py D) [0] ?_;refine⟨rfl,rfl,row af.cells ([(af.mk c e)]:List af),aM af.cells ([(af.mk c e)]:List af) rfl (cq (af.aC _) ⟨.same _,.same _,.same _,.same _,.same _,.same _,.same _,.same _,trivial⟩ trivial),rfl,rfl,(bk h λk f h=>(.dS ⟨rfl,rfl,dT (l:=([(af.mk c e)]:List af)) aw,bB f,k.length,row af.cells k,a6 f,bb f aw (cN aw),rfl,rfl,_,_,rfl,au,(.d ⟨rfl,_,rfl,rfl,_,_,rfl,au,?_⟩)⟩))⟩;exact adQ;refine .d (sE h (λE h=>?_) (λE h=>?_));obtain⟨⟨O,P⟩,F,h⟩:=bd h;refine dR (ph F) [0] ?_;obtain⟨⟨Q,R⟩,G,h⟩:=bd h;refine dR (ph G) [0] ?_;refine⟨rfl,_,_,rfl,au,(.d ⟨rfl,_,rfl,rfl,_,_,rfl,au,?_⟩)⟩;exact adT;refine .d ⟨rfl,_,rfl,rfl,_,_,rfl,au,?_⟩;exact adQ
def pD (e:List UInt8) (f:Int) (g:Int) (h:Int) (i:Int) (j:aB) (k:Int) (l:List af) (m:Int):Option ((List UInt8)×Int×Int×Int×Int×aB×Int×(List af)):=if m>0 then LB (aA.mk e f g)>>=λ(n,c)=>BK c 1>>=λ(d,a)=>Sq (ae.mk h i j k l) n d>>=λb=>pD a.fB a.fI a.fH b.aD b.aY b.bz b.cj b.aj (aP (m - 1))else some (e,f,g,h,i,j,k,l) partial_fixpoint
def Sv (e:aA):Option (ae×aA):=(qQ e 6>>=λ(a,b)=>pD b.fB b.fI b.fH 4 0 [] 0 ([]:List af) a:Option ((List UInt8)×Int×Int×Int×Int×aB×Int×(List af)))>>=λ(l1,f,g,h,i,j,k,l)=>vR (aA.mk l1 f g) 6>>=λ(c,d)=>if c then Su d>>=λ(m,n)=>some (m,n)else some ((ae.mk h i j k l),d)
theorem Y2 {n:aA} {r:ae×aA} {ax:Nat} (h:Sv n=some r):Pz 32 n r ax:=by
 refine cA Tryz.func32 ?_;unfold Sv at h;refine .d (.d (aT (kB) ⟨rfl,_,_,rfl,au,?_⟩));obtain⟨a,h,C⟩:=bd h;refine .cut (λσ η=>∃l1,∃b,∃c,∃e,∃f,∃g,∃j,∃k,(l1,b,c,e,f,g,j,k)=a/\σ=[(0,.aE 0 ax 0 0),(2,.aE 1 0 0 0),(3,.aE 2 0 0 0)]/\η=[.row ax 3 1 94 (λ_=>[sl 1 cB l1,pI b,pI c]),.row 0 5 1 33 (λ_=>[pI 0,pI 0,.str [],pI 0,.aF]),.row 0 5 1 33 (λ_=>[pI e,pI f,.str g,pI j,sl 8 af.cells k])]) ?_ ?_;refine .d ?_;obtain⟨⟨l,m⟩,D,h⟩:=bd h;refine dR (ph D) [0] ?_;refine le (pD.partial_correctness  (motive:=λo q t u v w x y A B=>a=B->aG _ _ [(0,.aE 0 ax 0 0),(2,.aE 1 0 0 0),(3,.aE 2 0 0 0),(4,pI A)] [.row ax 3 1 94 (λ_=>[sl 1 cB o,pI q,pI t]),.row 0 5 1 33 (λ_=>[pI 0,pI 0,.str [],pI 0,.aF]),.row 0 5 1 33 (λ_=>[pI u,pI v,.str w,pI x,sl 8 af.cells y])]) ?_ m.fB m.fI m.fH 4 0 [] 0 ([]:List af) l a h rfl) (tk [0,1,2] DX ⟨(Jf rfl),(nb rfl ⟨.i,.i,.s,.i,.aF,⟨⟩⟩),(nb rfl ⟨.i,.i,.s,.i,.z,⟨⟩⟩),⟨⟩⟩);intro E F o q t u v w x y A B h G;subst G;refine aG.round (.d (.d (sD h (λH h=>?_) (λH h=>?_))));refine .d (.float [(0,true),(1,true),(3,true),(2,false),(4,false),(5,false),(6,false)] aeV ?_);refine⟨rfl,_,rfl,?_⟩;obtain⟨⟨S,I⟩,J,h⟩:=bd h;refine dR (L4 J) [0] ?_;refine⟨rfl,?_⟩;obtain⟨⟨K,L⟩,M,h⟩:=bd h;refine dR (Tw M) [0] ?_;exact⟨rfl,(bk h λT N h=>(aT (YY N) ⟨rfl,_,_,rfl,au,(lg (F _ _ _ _ _ _ _ _ _ _ h rfl) (tk [0,1,2] DX TD))⟩))⟩;exact ct ⟨_,_,_,_,_,_,_,_,si h,rfl,rfl⟩ (tk [0,1,2] ⟨.p,.p,.p,⟨⟩⟩ TD);rintro _ _ ⟨l1,b,c,e,f,g,j,k,rfl,rfl,rfl⟩;replace h:=C;refine .d (.d ?_);obtain⟨⟨O,U⟩,P,h⟩:=bd h;refine dR (wA P) [0] ?_;refine sV h (λQ h=>?_) (λQ h=>?_);refine .d ?_;obtain⟨⟨V,W⟩,R,h⟩:=bd h;refine dR (Tx R) [0] ?_;refine⟨rfl,_,_,rfl,au,?_⟩;exact adU;refine .d ⟨rfl,_,rfl,rfl,_,_,rfl,au,?_⟩;exact adU
set_option maxRecDepth 100000
mutual
def eh (a:ae):Option (Bool):=(((if a.aD=3 then if a.aD=4 then some (.inl ())else if a.cj=0 then if(a.aj.length:Int)>0 then some (.inr false)else some (.inl ())else some (.inr false)else if a.bz=([]:aB)then if a.aD=4 then some (.inl ())else if a.cj=0 then if(a.aj.length:Int)>0 then some (.inr false)else some (.inl ())else some (.inr false)else some (.inr false)):Option tN)>>=λo1=>match o1 with | .inr r=>some r | .inl _=>(((if a.aD=0 then some (.inr (a.aY==0))else if a.aD=1 then if a.aY=0 then some (.inr true)else some (.inr (a.aY==1))else if a.aD=2 then Dx a.aY (-1000000000) 1000000000>>=λc=>some (.inr c)else if a.aD=3 then if a.aY=0 then some (.inr (decide ((a.bz.length:Int)<=400)))else some (.inr false)else((if a.aD=6 then some (a.aD==6)else if a.aD=7 then some (a.aD==7)else some (a.aD==8)):Option (Bool))>>=λd=>if d then Dx a.aY 0 255>>=λb=>some (.inr b)else if a.aD=4 then if a.aY=0 then Dx a.cj 0 1000000001>>=λe=>if e then((da a ([]:List (aL×Bool)) 0:Option Ij)>>=λf=>match f with | .inr r=>some r | .inl _=>some (.inr true))else some (.inr false)else some (.inr false)else some (.inl ())):Option tN)>>=λg=>match g with | .inr r=>some r | .inl _=>some false)) partial_fixpoint
def da (b:ae) (d:List (aL×Bool)) (c:Int):Option Ij:=if c<(b.aj.length:Int)then idx b.aj c>>=λa=>Sp a.aS>>=λe=>if e then if(LG d a.aS false)=true then some (.inr (.inr false))else if a.aS.bh=true then eh a.bE>>=λf=>if f then da b (mm d a.aS true) (aP (c+1))else some (.inr (.inr false))else if a.aS.aY>=b.cj then some (.inr (.inr false))else eh a.bE>>=λg=>if g then da b (mm d a.aS true) (aP (c+1))else some (.inr (.inr false))else some (.inr (.inr false))else some (.inl ()) partial_fixpoint
end
def Jj (a:ae) (r:Bool):Prop:=IS 80 a r
inductive eO:ae->(List (aL×Bool))->Int->Ij->Prop
 | mk (Y4:ae->Option (Bool)) (abg:∀a0 r,Y4 a0=some r->Jj a0 r) (jb:ae->(List (aL×Bool))->Int->Option Ij) (B6:∀a0 sw lk o,jb a0 sw lk=some o->eO a0 sw lk o) (a0:ae) (sw:List (aL×Bool)) (lk:Int) (o:(Unit) ⊕ tN) (h:(
 (if lk<(a0.aj.length:Int)then
 idx a0.aj lk>>=λnx=>
 Sp nx.aS>>=λvS=>
 (if vS=true then
 (if(LG sw nx.aS false)=true then
 some (.inr (.inr false))
 else
 (if nx.aS.bh=true then
 Y4 nx.bE>>=λJi=>
 (if Ji=true then
 jb a0 (mm sw nx.aS true) (aP (lk+1))
 else
 some (.inr (.inr false)))
 else
 (if nx.aS.aY>=a0.cj then
 some (.inr (.inr false))
 else
 Y4 nx.bE>>=λrX=>
 (if rX=true then
 jb a0 (mm sw nx.aS true) (aP (lk+1))
 else
 some (.inr (.inr false))))))
 else
 some (.inr (.inr false)))
 else
 some (.inl ()))
 )=some o):eO a0 sw lk o
theorem sx:(∀b r,eh b=some r->Jj b r)/\(∀b a g o,da b a g=some o->eO b a g o):=by
 refine eh.mutual_partial_correctness Jj eO ?_ ?_;intro _ z b r h;refine cA Tryz.func80 ?_;refine .d ?_;obtain⟨o1,h,iL⟩:=bd h;refine .cut (λσ η=>.inl ()=o1/\σ=[(1,.aE 0 0 0 0)]/\η=[.row 0 5 1 33 (λ_=>b.lit)]) ?_ ?_;refine .d ⟨rfl,rfl,_,rfl,(sN h (λA h=>?_) (λA h=>?_))⟩;refine⟨rfl,(.t ⟨rfl,_,rfl,(.t (.t (L6 h (λB h=>?_) (λB h=>?_))))⟩)⟩;refine .t (.t (.t (.t (.t (.t (.d ?_))))));exact adB;refine⟨rfl,(.f ⟨rfl,_,rfl,(.f (.f (sN h (λC h=>?_) (λC h=>?_))))⟩)⟩;refine⟨rfl,(.t ⟨rfl,_,rfl,(.t (.t (sN h (λD h=>?_) (λD h=>?_))))⟩)⟩;refine .t (.t (.t (.t (.t (.f (.t (.f (.t (.d ?_)))))))));exact adB;refine⟨rfl,(.f ⟨rfl,_,rfl,(.f (.f (.t (.f (.f (.t (.f (sD h (λE h=>?_) (λE h=>?_)))))))))⟩)⟩;refine .d ?_;exact adB;exact aeA;exact aeu;refine .f (.f (.f (.f ⟨rfl,(.f ⟨rfl,_,rfl,(.f (.f (sN h (λF h=>?_) (λF h=>?_))))⟩)⟩)));refine⟨rfl,(.t ⟨rfl,_,rfl,(.t (.t (sN h (λG h=>?_) (λG h=>?_))))⟩)⟩;refine .t (.t (.t (.t (.t (.f (.t (.f (.t (.d ?_)))))))));exact adB;refine⟨rfl,(.f ⟨rfl,_,rfl,(.f (.f (.t (.f (.f (.t (.f (sD h (λH h=>?_) (λH h=>?_)))))))))⟩)⟩;refine .d ?_;exact adB;exact aeA;exact aeu;rintro _ _ ⟨rfl,rfl,rfl⟩;obtain⟨I,h,gQ⟩:=bd iL;refine .cut (λσ η=>.inl ()=I/\σ=[]/\η=[]) ?_ ?_;refine .d ⟨rfl,rfl,_,rfl,(.d (sE h (λJ h=>?_) (λJ h=>?_)))⟩;refine .d ⟨rfl,rfl,_,rfl,?_⟩;exact adA;refine .d (sE h (λK h=>?_) (λK h=>?_));refine .d ⟨rfl,rfl,_,rfl,(sE h (λL h=>?_) (λL h=>?_))⟩;refine .t (.t (.t ?_));exact adA;refine⟨rfl,(.f ⟨rfl,_,rfl,(.f (.f ?_))⟩)⟩;exact adA;refine .d (sE h (λM h=>?_) (λM h=>?_));refine .d ⟨rfl,rfl,_,rfl,(bk h λDZ N h=>(aT (Dy N) ?_))⟩;exact adA;refine .d (sE h (λO h=>?_) (λO h=>?_));refine .d ⟨rfl,rfl,_,rfl,(sE h (λP h=>?_) (λP h=>?_))⟩;refine⟨rfl,(.t ⟨rfl,_,rfl,(.t (.t (.t ?_)))⟩)⟩;exact adA;refine .f (.f (.f (.f ?_)));exact adA;obtain⟨Q,h,R⟩:=bd h;refine .cut (λσ η=>∃q,q=Q/\σ=[(1,.aE 0 0 0 0),(31,pI b.aD),(63,.bool q)]/\η=[.row 0 5 1 33 (λ_=>b.lit)]) ?_ ?_;refine .d (sE h (λS h=>?_) (λS h=>?_));exact aeq;refine .d (sE h (λT h=>?_) (λT h=>?_));exact aeq;exact aeq;rintro _ _ ⟨q,rfl,rfl,rfl⟩;refine sV R (λU h=>?_) (λU h=>?_);refine .d ⟨rfl,rfl,_,rfl,(bk h λV W h=>(aT (Dy W) ?_))⟩;exact adA;refine .d (sE h (λX h=>?_) (λX h=>?_));refine .d (.d ⟨rfl,rfl,_,rfl,(sN h (λY h=>?_) (λY h=>?_))⟩);refine .t (.t (.t (.t (.t (.d ?_)))));exact adA;refine⟨rfl,(.f ⟨rfl,_,rfl,(.f (bk h λB3 Z h=>(aT (Dy Z) (.f (.f (kV h (λJk h=>?_) (λJk h=>?_)))))))⟩)⟩;refine .d ?_;exact adA;refine .d ⟨row (mc (λx:aL=>PV.agg x.lit) (PV.bool)) ([]:List (aL×Bool)),?_⟩;obtain⟨s,h,j⟩:=bd h;refine .cut (λσ η=>.inl ()=s/\σ=[]/\η=[]) ?_ ?_;refine .d ⟨rfl,rfl,_,rfl,?_⟩;have Y7:=z _ _ _ _ h;refine le (eO.rec (motive:=λk a g n _=>b=k->s=n->aG _ _ [(1,.aE 0 0 0 0),(3,.kC 1),(83,sl 8 af.cells b.aj),(84,pI (b.aj.length:Int)),(85,pI g)] [.row 0 5 1 33 (λ_=>b.lit),.row 0 2 a.length 158 (row (mc (λx:aL=>PV.agg x.lit) (PV.bool)) a)]) ?_ Y7 rfl rfl) (tk [0,1] ⟨.p,.m,.l,.i,.i,⟨⟩⟩ ⟨(sr rfl),⟨λh0=>absurd (show 1<0 from h0) aeQ,rfl,.inl rfl,rfl,AJ (λ_=>rfl) (λ_=>rfl)⟩,⟨⟩⟩);intro _ u _ _ k a g n h v  PK Y8;subst PK;subst Y8;refine aG.round (.d (.d (sD h (λPp h=>?_) (λPp h=>?_))));refine .d (.d (bk h λe w h=>⟨ba w,_,(aQ w).trans (af.aC e),rfl,_,_,rfl,au,(.d (.d ⟨rfl,rfl,_,rfl,(bk h λvS AD h=>(aT (YX AD) (kV h (λIY h=>?_) (λIY h=>?_))))⟩))⟩));refine .t (.t (.t (.t (.t (.t (.t (.t (.t (.t (.t (.t (.t (.t (.t ?_))))))))))))));refine .t (.t (.d ?_));obtain rfl:=si h;replace h:=j;exact adA;refine .f ⟨rfl,(.f ⟨rfl,_,rfl,(.f ⟨.bool (LG a e.aS false),PL a e.aS,Jl (ti:=G8.get 100) (c:=λx:aL=>PV.agg x.lit) (d:=PV.bool) (λx y=>congrArg some (aL.kS x y)) a e.aS false,(.f (sV h (λIZ h=>?_) (λIZ h=>?_)))⟩)⟩)⟩;refine .t (.t (.t (.t (.t (.t (.t (.t (.t (.t (.t (.t (.d ?_))))))))))));obtain rfl:=si h;replace h:=j;exact adA;refine⟨rfl,(.f ⟨rfl,(.f ⟨rfl,_,rfl,(.f (.f (kV h (λDI h=>?_) (λDI h=>?_))))⟩)⟩)⟩;refine⟨rfl,(.t ⟨rfl,(.t ⟨rfl,_,rfl,(.t ⟨rfl,(.t ⟨rfl,_,rfl,(.t (.f (.t (.f (sD h (λPM h=>?_) (λPM h=>?_))))))⟩)⟩)⟩)⟩)⟩;refine .t (.t (.t (.t (.t (.d ?_)))));obtain rfl:=si h;replace h:=j;exact adA;refine⟨rfl,(.f ⟨rfl,_,rfl,(.f (bk h λrX DT h=>(aT (u _ _ DT) (.f (.f (kV h (λPN h=>?_) (λPN h=>?_)))))))⟩)⟩;refine .d ?_;obtain rfl:=si h;replace h:=j;exact adA;exact⟨rfl,rfl,_,rfl,(mm a e.aS true).length,row (mc (λx:aL=>PV.agg x.lit) (PV.bool)) (mm a e.aS true),Fx (ti:=G8.get 100) (c:=λx:aL=>PV.agg x.lit) (d:=PV.bool) (λx y=>congrArg some (aL.kS x y)) a e.aS true,(lg (v _ _ _ _ h rfl rfl) (tk [0,1] ⟨.p,.m,.l,.i,.i,⟨⟩⟩ ⟨(sr rfl),⟨λh0=>absurd (show 1<0 from h0) aeQ,rfl,.inl rfl,rfl,AJ (λ_=>rfl) (λ_=>rfl)⟩,⟨⟩⟩))⟩;refine .f (.f (.f (.f (.f (.f (.f (.f (.f ⟨rfl,(.f ⟨rfl,_,rfl,(.f (bk h λJi Jm h=>(aT (u _ _ Jm) ?_)))⟩)⟩))))))));refine .f (.f (kV h (λJn h=>?_) (λJn h=>?_)));refine .d ?_;obtain rfl:=si h;replace h:=j;exact adA;exact⟨rfl,rfl,_,rfl,(mm a e.aS true).length,row (mc (λx:aL=>PV.agg x.lit) (PV.bool)) (mm a e.aS true),Fx (ti:=G8.get 100) (c:=λx:aL=>PV.agg x.lit) (d:=PV.bool) (λx y=>congrArg some (aL.kS x y)) a e.aS true,(lg (v _ _ _ _ h rfl rfl) (tk [0,1] ⟨.p,.m,.l,.i,.i,⟨⟩⟩ ⟨(sr rfl),⟨λh0=>absurd (show 1<0 from h0) aeQ,rfl,.inl rfl,rfl,AJ (λ_=>rfl) (λ_=>rfl)⟩,⟨⟩⟩))⟩;exact aes;rintro _ _ ⟨rfl,rfl,rfl⟩;replace h:=j;refine .d ?_;exact adA;exact aes;rintro _ _ ⟨rfl,rfl,rfl⟩;exact .d (eB gQ);intro F0 F1 Ay Az b a g o h;exact .mk F0 Ay F1 Az b a g o h
theorem vx {a:ae} {r:Bool} (h:eh a=some r):IS 80 a r:=sx.1 a r h
def gL (a:ae):Option (Bool):=jx a>>=λb=>if b<=200 then eh a>>=λc=>some c else some false
theorem sy {a:ae} {r:Bool} (h:gL a=some r):IS 36 a r:=by
 refine cA Tryz.func36 ?_;unfold gL at h;refine .d (.d ⟨rfl,_,rfl,(bk h λf b h=>(aT (BX b) (sD h (λc h=>?_) (λc h=>?_))))⟩);exact⟨rfl,_,rfl,(.t (bk h λg e h=>(aT (vx e) (.t (eB h)))))⟩;exact aeG
mutual
def iw (a:ae):Option (Bool):=(((if a.aD=4 then((fh a 0:Option Ij)>>=λb=>match b with | .inr r=>some r | .inl _=>some (.inr true))else some (.inl ())):Option tN)>>=λo1=>match o1 with | .inr r=>some r | .inl _=>Dx a.aD 0 3>>=λc=>some c) partial_fixpoint
def fh (a:ae) (b:Int):Option Ij:=if b<(a.aj.length:Int)then idx a.aj b>>=λc=>iw c.bE>>=λd=>if d then fh a (aP (b+1))else some (.inr (.inr false))else some (.inl ()) partial_fixpoint
end
def D0 (a:ae) (r:Bool):Prop:=IS 153 a r
inductive gA:ae->Int->Ij->Prop
 | mk (TF:ae->Option (Bool)) (aa5:∀a0 r,TF a0=some r->D0 a0 r) (nE:ae->Int->Option Ij) (Fy:∀a0 y8 o,nE a0 y8=some o->gA a0 y8 o) (a0:ae) (y8:Int) (o:(Unit) ⊕ tN) (h:(
 (if y8<(a0.aj.length:Int)then
 idx a0.aj y8>>=λwC=>
 TF wC.bE>>=λqk=>
 (if qk=true then
 nE a0 (aP (y8+1))
 else
 some (.inr (.inr false)))
 else
 some (.inl ()))
 )=some o):gA a0 y8 o
theorem wS:(∀a r,iw a=some r->D0 a r)/\(∀a b o,fh a b=some o->gA a b o):=by
 refine iw.mutual_partial_correctness D0 gA ?_ ?_;intro _ m a r h;refine cA Tryz.func153 ?_;refine .d ?_;obtain⟨o1,h,iL⟩:=bd h;refine .cut (λσ η=>.inl ()=o1/\σ=[(1,.aE 0 0 0 0)]/\η=[.row 0 5 1 33 (λ_=>a.lit)]) ?_ ?_;refine .d ⟨rfl,rfl,_,rfl,(sE h (λn h=>?_) (λn h=>?_))⟩;obtain⟨f,h,g⟩:=bd h;refine .cut (λσ η=>.inl ()=f/\σ=[]/\η=[]) ?_ ?_;refine .d ⟨rfl,rfl,_,rfl,?_⟩;have p:=m _ _ _ h;refine le (gA.rec (motive:=λj b c _=>a=j->f=c->aG _ _ [(9,sl 8 af.cells a.aj),(10,pI (a.aj.length:Int)),(11,pI b)] []) ?_ p rfl rfl) (tk [] ⟨.l,.i,.i,⟨⟩⟩ ⟨⟩);intro _ q _ _ j b c h e  s t;subst s;subst t;refine aG.round (.d (.d (sD h (λu h=>?_) (λu h=>?_))));refine .d (.d (bk h λv k h=>⟨ba k,_,(aQ k).trans (af.aC v),rfl,_,_,rfl,au,(.d ⟨rfl,rfl,_,rfl,(bk h λD w h=>(aT (q _ _ w) (kV h (λx h=>?_) (λx h=>?_))))⟩)⟩));refine .d ?_;obtain rfl:=si h;replace h:=g;exact adB;exact lg (e _ _ _ h rfl rfl) (tk [] ⟨.l,.i,.i,⟨⟩⟩ ⟨⟩);exact aes;rintro _ _ ⟨rfl,rfl,rfl⟩;replace h:=g;refine .d ?_;exact adB;exact aeA;rintro _ _ ⟨rfl,rfl,rfl⟩;exact .d ⟨rfl,rfl,_,rfl,(bk iL λE y h=>(aT (Dy y) (eB h)))⟩;intro z A B C a b o h;exact .mk z B A C a b o h
theorem AK {a:ae} {r:Bool} (h:iw a=some r):IS 153 a r:=wS.1 a r h
def PO (a:ae) (r:Bool):Prop:=IS 174 a r
inductive nF:ae->Int->tN->Prop
 | mk (TG:ae->Option (Bool)) (aa6:∀a0 r,TG a0=some r->PO a0 r) (nG:ae->Int->Option tN) (FA:∀a0 y7 o,nG a0 y7=some o->nF a0 y7 o) (a0:ae) (y7:Int) (o:(Unit) ⊕ Bool) (h:(
 (if y7<(a0.aj.length:Int)then
 idx a0.aj y7>>=λPh=>
 TG Ph.bE>>=λnX=>
 (if nX=true then
 nG a0 (aP (y7+1))
 else
 some (.inr false))
 else
 some (.inl ()))
 )=some o):nF a0 y7 o
set_option maxRecDepth 100000
def cK (a:Int):Option (aB):=XB a>>=λb=>some b
theorem gB {a:Int} {r:aB} (h:cK a=some r):Th 181 a r:=by
 refine cA Tryz.func181 ?_;unfold cK at h;exact .d (.d (bk h λc b h=>(aT (YU b) (eS h))))
mutual
def cO (b:List UInt8) (a:ae):Option ((List UInt8)):=if a.aD=0 then eE 1 b ([78,59]:aB)>>=λc=>some c else if a.aD=1 then cK a.aY>>=λd=>ja [98,58] d>>=λe=>ja e [59]>>=λf=>eE 1 b f>>=λg=>some g else if a.aD=2 then cK a.aY>>=λh=>ja [105,58] h>>=λi=>ja i [59]>>=λj=>eE 1 b j>>=λk=>some k else if a.aD=3 then cK (a.bz.length:Int)>>=λl=>ja [115,58] l>>=λm=>ja m [58]>>=λn=>ja n a.bz>>=λo=>ja o [59]>>=λp=>eE 1 b p>>=λq=>some q else cK (a.aj.length:Int)>>=λr=>ja [97,58] r>>=λs=>ja s [58]>>=λt=>cK a.cj>>=λu=>ja t u>>=λv=>ja v [123]>>=λw=>eE 1 b w>>=λx=>(cR a x 0:Option ((List UInt8)))>>=λy=>eE 1 y ([(125:UInt8)]:List UInt8)>>=λz=>some z partial_fixpoint
def cR (a:ae) (c:List UInt8) (b:Int):Option ((List UInt8)):=if b<(a.aj.length:Int)then idx a.aj b>>=λd=>gP d.aS>>=λe=>cO c e>>=λf=>cO f d.bE>>=λg=>cR a g (aP (b+1))else some c partial_fixpoint
end
def D1 (a:List UInt8) (b:ae) (r:(List UInt8)):Prop:=∀ax:Nat,TH 154 a b r ax
inductive dP:ae->(List UInt8)->Int->((List UInt8))->Prop
 | mk (PR:(List UInt8)->ae->Option ((List UInt8))) (aa7:∀a0 a1 r,PR a0 a1=some r->D1 a0 a1 r) (kx:ae->(List UInt8)->Int->Option ((List UInt8))) (AL:∀a1 qG qS o,kx a1 qG qS=some o->dP a1 qG qS o) (a1:ae) (qG:List UInt8) (qS:Int) (o:(List UInt8)) (h:(
 (if qS<(a1.aj.length:Int)then
 idx a1.aj qS>>=λMn=>
 gP Mn.aS>>=λXI=>
 PR qG XI>>=λwT=>
 PR wT Mn.bE>>=λG9=>
 kx a1 G9 (aP (qS+1))
 else
 some qG)
 )=some o):dP a1 qG qS o
theorem qH:(∀p a r,cO p a=some r->D1 p a r)/\(∀a b c o,cR a b c=some o->dP a b c o):=by
 refine cO.mutual_partial_correctness D1 dP ?_ ?_;intro _ U p a r h ax;refine cA Tryz.func154 ?_;refine .d (.d (.d ⟨rfl,rfl,_,rfl,(.d (sE h (λV h=>?_) (λV h=>?_)))⟩));refine .d (bk h λA q h=>(.dS ⟨rfl,bB q,A.length,row cB A,a6 q,bb q aw ql,?_⟩));exact aee;refine .d (sE h (λW h=>?_) (λW h=>?_));refine .d ⟨rfl,rfl,_,rfl,(bk h λv5 X h=>(aT (gB X) (bk h λY B h=>⟨cx B,Y,cy B,(bk h λZ C h=>⟨cx C,Z,cy C,(bk h λD s h=>(.dS ⟨rfl,bB s,D.length,row cB D,a6 s,bb s aw ql,?_⟩))⟩)⟩)))⟩;exact aee;refine .d (sE h (λrA h=>?_) (λrA h=>?_));refine .d ⟨rfl,rfl,_,rfl,(bk h λnX wy h=>(aT (gB wy) (bk h λIp E h=>⟨cx E,Ip,cy E,(bk h λZb F h=>⟨cx F,Zb,cy F,(bk h λG t h=>(.dS ⟨rfl,bB t,G.length,row cB G,a6 t,bb t aw ql,?_⟩))⟩)⟩)))⟩;exact aee;refine .d (sE h (λn7 h=>?_) (λn7 h=>?_));refine .d (.float [(0,true),(1,true),(2,true),(3,true),(7,true),(8,true),(4,false),(5,true),(6,true),(9,true),(10,true),(11,false),(12,true)] aeV ?_);refine⟨rfl,rfl,_,rfl,rfl,rfl,_,rfl,(bk h λoN sd h=>(aT (gB sd) ⟨rfl,rfl,(bk h λJo H h=>⟨cx H,Jo,cy H,(bk h λZc I h=>⟨cx I,Zc,cy I,(bk h λZd J h=>⟨cx J,Zd,cy J,(bk h λZe K h=>?_)⟩)⟩)⟩)⟩))⟩;refine⟨cx K,Ze,cy K,(bk h λL u h=>(.dS ⟨rfl,bB u,L.length,row cB L,a6 u,bb u aw ql,?_⟩))⟩;exact aee;refine .d (.float [(0,true),(1,true),(2,true),(3,true),(7,true),(8,true),(4,false),(5,true),(6,true),(9,false),(10,true),(11,true),(12,false),(13,true)] aeV ?_);refine⟨rfl,rfl,_,rfl,rfl,rfl,_,rfl,(bk h λzo AB h=>(aT (gB AB) ⟨rfl,rfl,(bk h λZf M h=>⟨cx M,Zf,cy M,(bk h λZg N h=>⟨cx N,Zg,cy N,(bk h λDq PS h=>(aT (gB PS) (bk h λZh O h=>?_)))⟩)⟩)⟩))⟩;refine⟨cx O,Zh,cy O,(bk h λZi P h=>⟨cx P,Zi,cy P,(bk h λQ v h=>(.dS ⟨rfl,bB v,Q.length,row cB Q,a6 v,bb v aw ql,?_⟩))⟩)⟩;obtain⟨e,h,Zk⟩:=bd h;refine .cut (λσ η=>∃f,∃k:Nat,f=e/\σ=[(0,.own 0 k 0 f.length)]/\η=[.row k 1 f.length 5 (row cB f)]) ?_ ?_;refine .d ⟨rfl,rfl,_,rfl,?_⟩;have Zl:=U _ _ _ _ h;refine le (dP.rec (motive:=λg b c i _=>∀m:Nat,a=g->e=i->aG _ _ [(0,.own 0 m 0 b.length),(59,sl 8 af.cells a.aj),(60,pI (a.aj.length:Int)),(61,pI c)] [.row m 1 b.length 5 (row cB b)]) ?_ Zl (ax+1) rfl rfl) (tk [0] AM B7);intro _ R _ _ g b c i h PT m PU Zm;subst PU;subst Zm;refine aG.round (.d (.d (sD h (λPq h=>?_) (λPq h=>?_))));refine .d (.d (bk h λw S h=>⟨ba S,_,(aQ S).trans (af.aC w),rfl,_,_,rfl,au,(.d ⟨rfl,rfl,_,rfl,(bk h λXI Zn h=>(aT (qP Zn) (bk h λx Jp h=>(TR (R _ _ _ Jp _) [0] ⟨ov,⟨⟩⟩ (λn=>.own 0 n 0 x.length) (λn=>[.row n 1 x.length 5 (row cB x),.row 0 8 1 104 (λ_=>w.lit)]) λn=>⟨rfl,rfl,_,rfl,(bk h λy PW h=>?_)⟩))))⟩)⟩));exact TR (R _ _ _ PW _) [0] ⟨ov,⟨⟩⟩ (λj=>.own 0 j 0 y.length) (λj=>[.row j 1 y.length 5 (row cB y),.row 0 8 1 104 (λ_=>w.lit)]) λj=>(lg (PT _ _ _ _ h j rfl rfl) (tk [0] AM B7));exact ct ⟨_,m,si h,rfl,rfl⟩ (tk [0] AO B7);rintro _ _ ⟨f,k,rfl,rfl,rfl⟩;refine .d ⟨row cB ([(125:UInt8)]:List UInt8),aM cB ([(125:UInt8)]:List UInt8) rfl (aU rfl),(bk Zk λT z h=>(.dS ⟨rfl,rfl,dT (l:=([(125:UInt8)]:List UInt8)) aw,bB z,T.length,row cB T,a6 z,bb z aw (cN aw),?_⟩))⟩;obtain rfl:=si h;exact en [0] ⟨(k+1),rfl,rfl⟩ .o B7;intro F0 F1 Ay Az a b c o h;exact .mk F0 Ay F1 Az a b c o h
theorem sA {a:List UInt8} {b:ae} {r:(List UInt8)} {ax:Nat} (h:cO a b=some r):TH 154 a b r ax:=qH.1 a b r h ax
def eV (a:ae):Option (aB×Bool):=gL a>>=λb=>if b then iw a>>=λc=>if c then cO ([]:List UInt8) a>>=λd=>some (d,true)else some ([],false)else some ([],false)
theorem pE {b:ae} {r:aB×Bool} (h:eV b=some r):ACall Tryz.prog 102 [.agg b.lit] [] (λres h=>res=.eC [.str r.1,.bool r.2]/\h=[]):=by
 refine cA Tryz.func102 ?_;unfold eV at h;refine .d (.d (.d ⟨rfl,_,rfl,(bk h λl e h=>(aT (sy e) (kV h (λg h=>?_) (λg h=>?_))))⟩));refine .t (.t (.t (.t (.d ?_))));exact aed;refine⟨rfl,_,rfl,(.f (bk h λm i h=>(aT (AK i) (.f (.f (kV h (λj h=>?_) (λj h=>?_)))))))⟩;refine .d ?_;exact aed;refine .d ⟨rfl,_,rfl,(bk h λc k h=>⟨λres h'=>∃a:Nat,res=.own 1 a 0 c.length/\h'=[.row 0 5 1 33 (λ_=>b.lit),.row a 1 c.length 5 (row cB c)],((ACall.Zo (sA (ax:=0) k) rfl).frame [.row 0 5 1 33 (λ_=>b.lit)] rfl).mono (by rintro _ _ ⟨_,_,⟨a,rfl,rfl⟩,rfl,rfl⟩;exact⟨a,rfl,by simp only[abF,acw,wV FB];rfl⟩),?_⟩)⟩;rintro _ _ ⟨a,rfl,rfl⟩;refine⟨rfl,c,rfl,fP aw rfl,?_⟩;exact aed
def db (a:Int):Option (Bool):=if a>=48 then some (decide (a<=57))else some false
theorem lC {a:Int} {r:Bool} (h:db a=some r):Sw 192 a r:=by
 refine cA Tryz.func192 ?_;unfold db at h;refine .d (.d (sD h (λb h=>?_) (λb h=>?_)));exact .t (.t (eB h));exact aeG
def dt (a:Bool):Option (Int):=if a then some 1 else some 0
theorem fQ {a:Bool} {r:Int} (h:dt a=some r):ACall Tryz.prog 197 [.bool a] [] (λres h=>res=pI r/\h=[]):=by
 refine cA Tryz.func197 ?_;unfold dt at h;refine .d (.d (.d (sV h (λb h=>?_) (λb h=>?_))));exact aer;exact aer
def dH (a:Int) (b:Int):Option (Int):=if a<b then some (-1)else if a>b then some 1 else some 0
theorem iP {a:Int} {b:Int} {r:Int} (h:dH a b=some r):Xy 196 a b r:=by
 refine cA Tryz.func196 ?_;unfold dH at h;refine .d (.d (.d (sD h (λc h=>?_) (λc h=>?_))));exact aer;refine .d (sD h (λe h=>?_) (λe h=>?_));exact aer;exact aer
def eZ (a:ae):Option (Bool):=if a.aD=2 then some true else some (a.aD==3)
theorem mv {a:ae} {r:Bool} (h:eZ a=some r):IS 199 a r:=by
 refine cA Tryz.func199 ?_;unfold eZ at h;refine .d (.d ⟨rfl,rfl,_,rfl,(sE h (λb h=>?_) (λb h=>?_))⟩);exact .t (.t (.t (eB h)));exact⟨rfl,(.f ⟨rfl,_,rfl,(.f (.f (eB h)))⟩)⟩
def cr (a:aB) (b:Int) (c:Int):Option (Int):=if b<(a.length:Int)then fF a b>>=λe=>db (e.toNat:Int)>>=λd=>if d then fF a b>>=λf=>lz (aP ((aP (c*10))+(aP (IntKind.u8.wrap ((f.toNat:Int) - 48))))) 1000000000>>=λg=>cr a (aP (b+1)) g else some c else some c partial_fixpoint
def fm (a:aB):Option (Int):=((if a=([]:aB)then some false else fF a 0>>=λd=>some ((d.toNat:Int)==45)):Option (Bool))>>=λb=>((if b then some 1 else some 0):Option (Int))>>=λe=>(cr a e 0:Option (Int))>>=λc=>if b then some (aP (0 - c))else some c
theorem oQ {a:aB} {r:Int} (h:fm a=some r):PY 182 a r:=by
 refine cA Tryz.func182 ?_;unfold fm at h;refine .d ?_;obtain⟨q,h,kr⟩:=bd h;refine .cut (λσ η=>∃c,c=q/\σ=[(0,.str a),(3,.bool c)]/\η=[]) ?_ ?_;refine L6 h (λu h=>?_) (λu h=>?_);exact .t (bk h λv k h=>⟨bL k,v,bM k,(.t (.t (ct ⟨_,si h,rfl,rfl⟩ (tk [] jQ ⟨⟩))))⟩);exact .f (.f (.f (ct ⟨_,si h,rfl,rfl⟩ (tk [] jQ ⟨⟩))));rintro _ _ ⟨c,rfl,rfl,rfl⟩;replace h:=kr;refine .d ?_;obtain⟨w,h,x⟩:=bd h;refine .cut (λσ η=>∃e,e=w/\σ=[(0,.str a),(3,.bool c),(4,pI e)]/\η=[]) ?_ ?_;refine .d (sV h (λy h=>?_) (λy h=>?_));exact ct ⟨_,si h,rfl,rfl⟩ (tk [] ⟨.s,.b,.i,⟨⟩⟩ ⟨⟩);exact ct ⟨_,si h,rfl,rfl⟩ (tk [] ⟨.s,.b,.i,⟨⟩⟩ ⟨⟩);rintro _ _ ⟨e,rfl,rfl,rfl⟩;replace h:=x;refine .d ?_;obtain⟨g,h,z⟩:=bd h;refine .cut (λσ η=>∃j,j=g/\σ=[(3,.bool c),(5,pI j)]/\η=[]) ?_ ?_;refine le (cr.partial_correctness a (motive:=λl m n=>g=n->aG _ _ [(0,.str a),(3,.bool c),(4,pI l),(5,pI m)] []) ?_ e 0 g h rfl) (tk [] ⟨.s,.b,.i,.i,⟨⟩⟩ ⟨⟩);intro A B l m n h C;subst C;refine aG.round (.d (.d (sD h (λD h=>?_) (λD h=>?_))));refine .t (.t (bk h λE o h=>⟨bL o,E,bM o,(.t (bk h λF G h=>(aT (lC G) (.t (sV h (λH h=>?_) (λH h=>?_))))))⟩));exact .d (bk h λI p h=>⟨bL p,I,bM p,(bk h λL J h=>(aT (BS J) (lg (B _ _ _ h rfl) (tk [] ⟨.s,.b,.i,.i,⟨⟩⟩ ⟨⟩))))⟩);exact ct ⟨_,si h,rfl,rfl⟩ (tk [] ⟨.b,.i,⟨⟩⟩ ⟨⟩);exact .f (.f (.f (.f (.f (ct ⟨_,si h,rfl,rfl⟩ (tk [] ⟨.b,.i,⟨⟩⟩ ⟨⟩))))));rintro _ _ ⟨j,rfl,rfl,rfl⟩;refine .d (.d (sV z (λK h=>?_) (λK h=>?_)));exact aer;exact aer
def du (s1:aB) (c:Int) (a:Int):Option ((Int) ⊕ Bool):=if a<(s1.length:Int)then fF s1 a>>=λd=>db (d.toNat:Int)>>=λb=>if b then fF s1 a>>=λe=>du s1 (aP ((aP (c*10))+(aP (IntKind.u8.wrap ((e.toNat:Int) - 48))))) (aP (a+1))else some (.inr false)else some (.inl c) partial_fixpoint
def hZ (a:aB):Option (Bool):=((if a=([]:aB)then some a else fF a 0>>=λb=>if(b.toNat:Int)=45 then oO a 1>>=λc=>some c else some a):Option (aB))>>=λs1=>if(s1.length:Int)<1 then some false else if(s1.length:Int)>10 then some false else((du s1 0 0:Option ((Int) ⊕ Bool))>>=λd=>match d with | .inr r=>some r | .inl e=>some (decide (e<=1000000000)))
theorem wW {c:aB} {r:Bool} (h:hZ c=some r):TU 232 c r:=by
 refine cA Tryz.func232 ?_;unfold hZ at h;refine .d (.d ?_);obtain⟨o,h,kr⟩:=bd h;refine .cut (λσ η=>∃s1,s1=o/\σ=[(3,.str s1)]/\η=[]) ?_ ?_;refine .d (L6 h (λp h=>?_) (λp h=>?_));refine .t (bk h λq e h=>⟨bL e,q,bM e,(.t (.t (sE h (λs h=>?_) (λs h=>?_))))⟩);exact bk h λu g h=>⟨wG g,u,wH g,(ct ⟨_,si h,rfl,rfl⟩ (tk [] wX ⟨⟩))⟩;exact aeI;exact .f (.f (.f (.f (ct ⟨_,si h,rfl,rfl⟩ (tk [] wX ⟨⟩)))));rintro _ _ ⟨s1,rfl,rfl,rfl⟩;refine .d (.d (sD kr (λv h=>?_) (λv h=>?_)));exact .t (.t (.t (.t (.d (eB h)))));refine .f (.f (.f (sD h (λw h=>?_) (λw h=>?_))));exact .d (eB h);refine .d ?_;obtain⟨a,h,i⟩:=bd h;refine .cut (λσ η=>∃b,.inl b=a/\σ=[(4,pI b)]/\η=[]) ?_ ?_;refine .d ?_;refine le (du.partial_correctness s1 (motive:=λj k l=>a=l->aG _ _ [(3,.str s1),(4,pI j),(5,pI k)] []) ?_ 0 0 a h rfl) (tk [] GU ⟨⟩);intro x y j k l h z;subst z;refine aG.round (.d (.d (sD h (λA h=>?_) (λA h=>?_))));refine .d (.d (.d (bk h λB m h=>⟨bL m,B,bM m,(bk h λC D h=>(aT (lC D) (kV h (λE h=>?_) (λE h=>?_))))⟩)));refine .d ?_;obtain rfl:=si h;exact eB i;exact bk h λF n h=>⟨bL n,F,bM n,(lg (y _ _ _ h rfl) (tk [] GU ⟨⟩))⟩;exact aex;rintro _ _ ⟨b,rfl,rfl,rfl⟩;exact .d (eB i)
def dm (a:ae):Option (Bool):=if a.aD=0 then some false else((if a.aD=1 then some (a.aD==1)else some (a.aD==2)):Option (Bool))>>=λb=>if b then some (a.aY != 0)else if a.aD=3 then if a.bz=([]:aB)then some false else some (!(a.bz==([48]:aB)))else if a.aD=4 then some (decide ((a.aj.length:Int)>0))else some true
theorem fR {a:ae} {r:Bool} (h:dm a=some r):IS 183 a r:=by
 refine cA Tryz.func183 ?_;unfold dm at h;refine .d (.d (.d ⟨rfl,rfl,_,rfl,(.d (sE h (λc h=>?_) (λc h=>?_)))⟩));exact .d (eB h);obtain⟨e,h,g⟩:=bd h;refine .cut (λσ η=>∃b,b=e/\σ=[(1,.aE 0 0 0 0),(4,pI a.aD),(7,.bool b)]/\η=[.row 0 5 1 33 (λ_=>a.lit)]) ?_ ?_;refine .d (sE h (λi h=>?_) (λi h=>?_));exact aeq;exact aeq;rintro _ _ ⟨b,rfl,rfl,rfl⟩;refine sV g (λj h=>?_) (λj h=>?_);exact .d ⟨rfl,rfl,_,rfl,(eB h)⟩;refine .d (sE h (λk h=>?_) (λk h=>?_));refine .d ⟨rfl,rfl,_,rfl,(L6 h (λl h=>?_) (λl h=>?_))⟩;exact⟨rfl,(.t ⟨rfl,_,rfl,(.t (.t (eB h)))⟩)⟩;exact .f (.f (.f (eB h)));refine .d (sE h (λm h=>?_) (λm h=>?_));exact .d ⟨rfl,rfl,_,rfl,(eB h)⟩;exact .d (eB h)
def jD (a:ae):Option (Int):=if a.aD=2 then some a.aY else if a.aD=3 then fm a.bz>>=λb=>some b else dm a>>=λc=>if c then some 1 else some 0
theorem wY {a:ae} {r:Int} (h:jD a=some r):Pj 142 a r:=by
 refine cA Tryz.func142 ?_;unfold jD at h;refine .d (.d (.d ⟨rfl,rfl,_,rfl,(.d (sE h (λb h=>?_) (λb h=>?_)))⟩));exact .d ⟨rfl,rfl,_,rfl,(eI h)⟩;refine .d (sE h (λc h=>?_) (λc h=>?_));exact .d ⟨rfl,rfl,_,rfl,(bk h λi e h=>(aT (oQ e) (eI h)))⟩;refine .d (.d ⟨rfl,_,rfl,(bk h λj f h=>(aT (fR f) (sV h (λg h=>?_) (λg h=>?_))))⟩);exact aer;exact aer
def gq (a:ae):Option (aB×Int):=if a.aD=0 then some ([],0)else if a.aD=1 then if a.aY=0 then some ([],0)else some ([49],0)else if a.aD=2 then cK a.aY>>=λb=>some (b,0)else if a.aD=3 then some (a.bz,0)else some ([],1)
theorem mw {a:ae} {r:aB×Int} (h:gq a=some r):ACall Tryz.prog 139 [.agg a.lit] [] (λres h=>res=.eC [.str r.1,pI r.2]/\h=[]):=by
 refine cA Tryz.func139 ?_;unfold gq at h;refine .d (.d (.d ⟨rfl,rfl,_,rfl,(.d (sE h (λb h=>?_) (λb h=>?_)))⟩));refine .d ?_;exact adX;refine .d (sE h (λc h=>?_) (λc h=>?_));refine .d (.d ⟨rfl,rfl,_,rfl,(sN h (λe h=>?_) (λe h=>?_))⟩);refine .d ?_;exact adX;refine .d ?_;exact adX;refine .d (sE h (λf h=>?_) (λf h=>?_));refine .d ⟨rfl,rfl,_,rfl,(bk h λj g h=>(aT (gB g) ?_))⟩;exact adX;refine .d (sE h (λi h=>?_) (λi h=>?_));refine .d ⟨rfl,rfl,_,rfl,?_⟩;exact adX;refine .d ?_;exact adX
def iQ (a:ae):Option (Int×Int):=((if a.aD=0 then some (a.aD==0)else if a.aD=1 then some (a.aD==1)else some (a.aD==2)):Option (Bool))>>=λc=>if c then jD a>>=λd=>some (d,0)else if a.aD=3 then hZ a.bz>>=λb=>if b then fm a.bz>>=λe=>some (e,0)else some (0,2)else some (0,2)
theorem qT {a:ae} {r:Int×Int} (h:iQ a=some r):ACall Tryz.prog 198 [.agg a.lit] [] (λres h=>res=.eC [pI r.1,pI r.2]/\h=[]):=by
 refine cA Tryz.func198 ?_;unfold iQ at h;refine .d (.d (.d ⟨rfl,rfl,_,rfl,?_⟩));obtain⟨c,h,kr⟩:=bd h;refine .cut (λσ η=>∃b,b=c/\σ=[(1,.aE 0 0 0 0),(5,pI a.aD),(6,.bool b)]/\η=[.row 0 5 1 33 (λ_=>a.lit)]) ?_ ?_;refine .d (sE h (λe h=>?_) (λe h=>?_));exact aeq;refine .d (sE h (λf h=>?_) (λf h=>?_));exact aeq;exact aeq;rintro _ _ ⟨b,rfl,rfl,rfl⟩;refine sV kr (λg h=>?_) (λg h=>?_);refine .d ⟨rfl,_,rfl,(bk h λo i h=>(aT (wY i) ?_))⟩;exact aei;refine .d (sE h (λj h=>?_) (λj h=>?_));refine .d ⟨rfl,rfl,_,rfl,(bk h λk l h=>(aT (wW l) (sV h (λm h=>?_) (λm h=>?_))))⟩;refine .d ⟨rfl,rfl,_,rfl,(bk h λp n h=>(aT (oQ n) ?_))⟩;exact aei;refine .d ?_;exact aei;refine .d ?_;exact aei
def pF (a:aB) (c:Int):Option Int:=some (Lib.indexByte a c.toNat.toUInt8)
theorem AP {a:aB} {b:Int} {r:Int} (h:pF a b=some r):ACall Tryz.prog 194 [.str a,.int .u8 b] [] (λres h=>res=.int .i64 r/\h=[]):=by
 cases h;refine ACall.ext ⟨_,_,Tryz.func194,rfl,by kernel_rfl⟩ (λw vs S g i c hj=>?_) rfl [];obtain⟨v,hv,hp⟩:=hj 0 _ rfl;cases hp;obtain⟨j,d,f⟩:=hj 1 _ rfl;cases f;obtain rfl:=B0 c hv d;refine(Tryz.strings_IndexByte ⟨⟨a⟩⟩ b w).mono ?_;rintro e w' ⟨rfl,rfl⟩;exact⟨_,rfl,λ_ _ _ _=>.int _ _,Below.refl _ _⟩
def nH (a b:aB):Option Int:=some (Lib.compareBytes a b)
theorem rC {a b:aB} {r:Int} (h:nH a b=some r):ACall Tryz.prog 195 [.str a,.str b] [] (λres h=>res=.int .i64 r/\h=[]):=by
 cases h;refine ACall.ext ⟨_,_,Tryz.func195,rfl,by kernel_rfl⟩ (λw vs S g i c hj=>?_) rfl [];obtain⟨v,hv,hp⟩:=hj 0 _ rfl;cases hp;obtain⟨j,d,f⟩:=hj 1 _ rfl;cases f;obtain rfl:=B0 c hv d;refine(Tryz.strings_Compare ⟨⟨a⟩⟩ ⟨⟨b⟩⟩ w).mono ?_;rintro e w' ⟨rfl,rfl⟩;exact⟨_,rfl,λ_ _ _ _=>.int _ _,Below.refl _ _⟩
def sB (s:aB) (n:Int):Option aB:=if 0<=n/\n<=9223372036854775807/\s.length*n.toNat<=140737488355328 then some (Lib.repeatL s n.toNat)else none
theorem He {b:aB} {a:Int} {r:aB} (h:sB b a=some r):ACall Tryz.prog 143 [.str b,.int .i64 a] [] (λres h=>res=.str r/\h=[]):=by
 obtain⟨⟨h0,h1,h2⟩,rfl⟩:=cC h;refine ACall.ext ⟨_,_,Tryz.func143,rfl,by kernel_rfl⟩ (λw vs S i j c hj=>?_) rfl [];obtain⟨v,hv,hp⟩:=hj 0 _ rfl;cases hp;obtain⟨k,d,f⟩:=hj 1 _ rfl;cases f;obtain rfl:=B0 c hv d;obtain⟨n,rfl⟩:∃n:Nat,a=(n:Int):=⟨a.toNat,by omega⟩;refine(Tryz.strings_Repeat ⟨⟨b⟩⟩ n w aeP h2).mono ?_;rintro e w' ⟨rfl,g⟩;exact⟨_,rfl,λ_ _ _ _=>.str _,g⟩
def AQ (l:List aB) (p:aB):Option aB:=if l.length<=140737488355328/\(Lib.join l p).length<=140737488355328 then some (Lib.join l p)else none
theorem Mp {d:List aB} {g:aB} {r:aB} (h:AQ d g=some r):ACall Tryz.prog 152 [sl 1 cS d,.str g] [] (λres h=>res=.str r/\h=[]):=by
 obtain⟨⟨h0,h1⟩,rfl⟩:=cC h;refine⟨⟨_,_,Tryz.func152,rfl,by kernel_rfl⟩,λw vs μ S A k B p=>?_⟩;obtain⟨v,hv,hp⟩:=p 0 _ rfl;obtain⟨C,D,l⟩:=p 1 _ rfl;have hp:aI S w (.eD 1 d.length (row cS d)) v:=hp;have l:aI S w (.str g) C:=l;cases l;obtain rfl:=B0 B hv D
 have key:Calls Tryz.prog 152 #[v,.string ⟨⟨g⟩⟩] w (λe w'=>e=.returned (.string ⟨⟨Lib.join d g⟩⟩)/\Below w.heap.size w w'):=by
  generalize m:d.length=n at hp;generalize hf:row cS d=f at hp;cases hp with
  | lM _ _ a c=>
   obtain rfl:d=[]:=acv m;refine(Tryz.strings_Join_none a c ⟨⟨g⟩⟩ w).mono ?_;rintro e w' ⟨rfl,rfl⟩;exact⟨rfl,Below.refl _ _⟩
  | eD _ _ _ b off c E F hlen hc G H=>
   have hm:(d.map (λs=>(⟨⟨s⟩⟩:ByteArray))).map (·.data.toList)=d:=by rw[List.map_map];exact List.map_id d
   have q:=Tryz.strings_Join b off c (d.map (λs=>(⟨⟨s⟩⟩:ByteArray))) ⟨⟨g⟩⟩ w (λj x t=>?_) (k.slt _ F) (by rw[abT];exact h0) (by rw[abT,m];exact hc) (by rw[hm];exact h1)
   ·rw[hm,abT,m]at q;exact q
   ·rw[abD]at t;obtain⟨s,hs,rfl⟩:=Option.map_eq_some_iff.1 t;obtain⟨hj,rfl⟩:=As.1 hs;have y:f j=[.str d[j]]:=by rw[<-hf,jc hj];rfl
    have z:=G j 0 (.str d[j]) aeP (by rw[y];rfl);have e2:=H j 0 (.str d[j]) aeP (by rw[y];rfl);rw[show off+j*1+0=off+j by omega]at z;rw[z];generalize E j 0=u at e2;cases e2;rfl
 refine key.mono ?_;rintro e w' ⟨rfl,i⟩;have o:bR w w':=⟨i.block,i.size,i.os,i.tape,i.output⟩;exact⟨_,_,[],μ,S,rfl,⟨rfl,rfl⟩,.str _,A.agree o k,k.agree o,Fr.pC o⟩
def dj (a:Int):Option (Int):=fF [48,49,50,51,52,53,54,55,56,57,65,66,67,68,69,70] a>>=λb=>some (b.toNat:Int)
theorem kP {a:Int} {r:Int} (h:dj a=some r):ACall Tryz.prog 193 [.int .u8 a] [] (λres h=>res=.int .u8 r/\h=[]):=by
 refine cA Tryz.func193 ?_;unfold dj at h;refine .d (.d (bk h λc b h=>⟨bL b,c,bM b,?_⟩));obtain rfl:=si h;exact en [] ⟨rfl,rfl⟩ .i ⟨⟩
theorem AR {a v:Int} (h:dj a=some v):cB (UInt8.ofNat v.toNat)=[.int .u8 v]:=by
 unfold dj at h;cases hs:fF [48,49,50,51,52,53,54,55,56,57,65,66,67,68,69,70] a with
 | none=>rw[hs]at h;cases h
 | some c=>
  rw[hs]at h;change some _=some _ at h
  cases h;unfold cB;simp
end Go.Am
