/- Texts of the proof, joined and shortened. -/
import Derived.Test.YtmkelbnaodipcaaDoorPk6
import Derived.Lib.AtoiTie
set_option linter.unusedVariables false
set_option linter.unusedSimpArgs false
set_option maxRecDepth 100000
namespace Go.Am
open Go Go.RowKit Go.Proofs
def dH (l:ai) (e:List az):Option (ai):=rO l>>=λa=>if(e.length:Int)=0 then some a else uP e (bc ((e.length:Int) - 1))>>=λg=>if 0<(g.length:Int)then idx g 0>>=λm=>se a m>>=λc=>if c<0 then some a else idx a.ae c>>=λb=>if(bc (0+1))<(g.length:Int)then idx g (bc (0+1))>>=λn=>se b.ah n>>=λh=>if h<0 then some (ai.mk a.aj a.ao a.aq a.ak (a.ae.set c.toNat b))else idx b.ah.ae h>>=λd=>if(bc ((bc (0+1))+1))<(g.length:Int)then idx g (bc ((bc (0+1))+1))>>=λo=>se d.ah o>>=λf=>if f<0 then some (ai.mk a.aj a.ao a.aq a.ak (a.ae.set c.toNat (af.mk b.ar (ai.mk b.ah.aj b.ah.ao b.ah.aq b.ah.ak (b.ah.ae.set h.toNat d)))))else idx d.ah.ae f>>=λi=>if(bc ((bc ((bc (0+1))+1))+1))<(g.length:Int)then idx g (bc ((bc ((bc (0+1))+1))+1))>>=λp=>se i.ah p>>=λj=>if j<0 then some (ai.mk a.aj a.ao a.aq a.ak (a.ae.set c.toNat (af.mk b.ar (ai.mk b.ah.aj b.ah.ao b.ah.aq b.ah.ak (b.ah.ae.set h.toNat (af.mk d.ar (ai.mk d.ah.aj d.ah.ao d.ah.aq d.ah.ak (d.ah.ae.set f.toNat i))))))))else idx i.ah.ae j>>=λx=>none else idx e (bc ((e.length:Int) - 1))>>=λq=>pN i.ah q>>=λk=>some (ai.mk a.aj a.ao a.aq a.ak (a.ae.set c.toNat (af.mk b.ar (ai.mk b.ah.aj b.ah.ao b.ah.aq b.ah.ak (b.ah.ae.set h.toNat (af.mk d.ar (ai.mk d.ah.aj d.ah.ao d.ah.aq d.ah.ak (d.ah.ae.set f.toNat (af.mk i.ar k)))))))))else idx e (bc ((e.length:Int) - 1))>>=λr=>pN d.ah r>>=λs=>some (ai.mk a.aj a.ao a.aq a.ak (a.ae.set c.toNat (af.mk b.ar (ai.mk b.ah.aj b.ah.ao b.ah.aq b.ah.ak (b.ah.ae.set h.toNat (af.mk d.ar s))))))else idx e (bc ((e.length:Int) - 1))>>=λt=>pN b.ah t>>=λu=>some (ai.mk a.aj a.ao a.aq a.ak (a.ae.set c.toNat (af.mk b.ar u)))else idx e (bc ((e.length:Int) - 1))>>=λv=>pN a v>>=λw=>some w
theorem pR {a0:ai} {a1:List az} {r:ai} (h:dH a0 a1=some r):ACall Tryd.prog 10 [.agg a0.lit,sl 3 az.cells a1] [] (λres h=>res=.agg r.lit/\h=[]):=by
 refine gD Tryd.func10 ?_;unfold dH at h;refine .d (.d ⟨rfl,_,rfl,(bk h λe oe h=>(Bo (yi oe) ?_))⟩);rintro _ _ ⟨w,B,rfl,rfl⟩;refine⟨.agg [.int .i64 e.aj,.int .i64 e.ao,.str e.aq,.int .i64 e.ak,.own 2 0 0 e.ae.length],[.row 0 5 1 26 (λ_=>a0.lit),.row 0 5 1 26 (λ_=>[.int .i64 0,.int .i64 0,.str [],.int .i64 0,.aD]),.row 0 8 e.ae.length 51 w],rfl,(by simp only[SE,SS,shr,DK B];rfl),⟨rfl,_,λ_=>[.int .i64 e.aj,.int .i64 e.ao,.str e.aq,.int .i64 e.ak,.own 2 0 0 e.ae.length],rfl,aB rfl,(.d (.d (sE h (λwI h=>?_) (λwI h=>?_))))⟩⟩;refine .d ⟨rfl,_,rfl,⟨rfl,_,λ_=>[.int .i64 e.aj,.int .i64 e.ao,.str e.aq,.int .i64 e.ak,.own 2 0 0 e.ae.length],rfl,aB rfl,?_⟩⟩;obtain rfl:=si h;exact⟨rfl,_,rfl,(en [] ⟨rfl,rfl⟩ (.aM ⟨.i,.i,.s,.i,(.rd B),⟨⟩⟩) ⟨⟩)⟩;refine .d (.d (.d (bk h λT IC h=>⟨trivial,tG IC,T.length,row az.cells T,p3 IC,Eb IC,(le (a7.round ?_:a7 _ _ [(1,sl 3 az.cells a1),(4,.aH 1 0 0 0),(5,.aH 3 0 0 0),(6,.aH 3 0 0 0),(20,sl 3 az.cells T),(21,.int .i64 (T.length:Int)),(22,.int .i64 0)] [.dead,.row 0 5 1 26 (λ_=>[.int .i64 0,.int .i64 0,.str [],.int .i64 0,.aD]),.row 0 8 e.ae.length 51 w,.row 0 5 1 26 (λ_=>[.int .i64 e.aj,.int .i64 e.ao,.str e.aq,.int .i64 e.ak,.own 2 0 0 e.ae.length])]) (tk [0,1,2,3] ⟨.l,.p,.p,.p,.l,.i,.i,⟨⟩⟩ ⟨dd,(nb rfl ⟨.i,.i,.s,.i,.aD,⟨⟩⟩),(tK B),(nb rfl ⟨.i,.i,.s,.i,.o,⟨⟩⟩),⟨⟩⟩))⟩)));refine .d (.d (sD h (λtr h=>?_) (λtr h=>?_)));refine .d (.d (bk h λx9 vq h=>⟨bP vq,_,(bx vq).trans (az.aO x9),⟨rfl,_,λ_=>[.bool x9.av,.int .i64 x9.ao,.str x9.aq],rfl,aB rfl,(.d (.float [(0,true),(1,true),(2,true),(3,true),(4,false),(5,true)] UR ?_))⟩⟩));refine⟨rfl,⟨rfl,_,rfl,⟨rfl,_,rfl,(bk h λk BD h=>(Bf (rN BD) ⟨.aM ⟨.i,.i,.s,.i,(.rd B),⟨⟩⟩,.aM ⟨.b,.i,.s,⟨⟩⟩,⟨⟩⟩ (.d (.d (sD h (λA5 h=>?_) (λA5 h=>?_))))))⟩⟩⟩;refine .d ⟨rfl,_,rfl,⟨rfl,_,λ_=>[.int .i64 e.aj,.int .i64 e.ao,.str e.aq,.int .i64 e.ak,.own 2 0 0 e.ae.length],rfl,aB rfl,?_⟩⟩;obtain rfl:=si h;exact⟨rfl,_,rfl,(en [] ⟨rfl,rfl⟩ (.aM ⟨.i,.i,.s,.i,(.rd B),⟨⟩⟩) ⟨⟩)⟩;refine⟨rfl,⟨rfl,⟨rfl,_,rfl,(bk h λa E h=>?_)⟩⟩⟩;obtain⟨mn,j,Qb,y⟩:=af.ew (DR.idx B E);refine⟨rfl,DR.bd B E,_,Sx _,⟨rfl,(lg (a7.round ?_:a7 _ _ [(1,sl 3 az.cells a1),(4,.aH 1 0 0 0),(5,.aH 3 0 0 0),(6,.aH 2 0 k.toNat 3),(20,sl 3 az.cells T),(21,.int .i64 (T.length:Int)),(22,.int .i64 (bc (0+1)))] [.dead,.row 0 5 1 26 (λ_=>[.int .i64 0,.int .i64 0,.str [],.int .i64 0,.aD]),.row 0 8 e.ae.length 51 w,.row 0 5 1 26 (λ_=>[.int .i64 e.aj,.int .i64 e.ao,.str e.aq,.int .i64 e.ak,.own 2 0 0 e.ae.length]),.dead]) (tk [0,1,2,3,4] ⟨.l,.p,.p,(.aH _ _ _ _ _ _ _ _ _ _ _ _ _ _ rfl rfl rfl (DR.lt B E)),.l,.i,.i,⟨⟩⟩ ⟨dd,(nb rfl ⟨.i,.i,.s,.i,.aD,⟨⟩⟩),(tK B),(nb rfl ⟨.i,.i,.s,.i,.o,⟨⟩⟩),dd,⟨⟩⟩))⟩⟩;refine .d (.d (sD h (λoy h=>?_) (λoy h=>?_)));refine .d (.d (bk h λeU uN h=>⟨bP uN,_,(bx uN).trans (az.aO eU),⟨rfl,_,λ_=>[.bool eU.av,.int .i64 eU.ao,.str eU.aq],rfl,aB rfl,(.ex [.dead,.row 0 5 1 26 (λ_=>[.int .i64 0,.int .i64 0,.str [],.int .i64 0,.aD]),.row 0 8 e.ae.length 51 (ax w k.toNat [.bool a.ar.av,.int .i64 a.ar.ao,.str a.ar.aq,.int .i64 a.ah.aj,.int .i64 a.ah.ao,.str a.ah.aq,.int .i64 a.ah.ak,.own 6 0 0 a.ah.ae.length]),.row 0 5 1 26 (λ_=>[.int .i64 e.aj,.int .i64 e.ao,.str e.aq,.int .i64 e.ak,.own 2 0 0 e.ae.length]),.dead,.row 0 3 1 37 (λ_=>eU.lit),.row 0 8 a.ah.ae.length 51 j] (zq 2 7 [.bool a.ar.av,.int .i64 a.ar.ao,.str a.ar.aq,.int .i64 a.ah.aj,.int .i64 a.ah.ao,.str a.ah.aq,.int .i64 a.ah.ak,.aG 8 a.ah.ae.length 51 j mn] [.bool a.ar.av,.int .i64 a.ar.ao,.str a.ar.aq,.int .i64 a.ah.aj,.int .i64 a.ah.ao,.str a.ah.aq,.int .i64 a.ah.ak,.own 6 0 0 a.ah.ae.length] (ax w k.toNat [.bool a.ar.av,.int .i64 a.ar.ao,.str a.ar.aq,.int .i64 a.ah.aj,.int .i64 a.ah.ao,.str a.ah.aq,.int .i64 a.ah.ak,.own 6 0 0 a.ah.ae.length]) (DR.lt B E) Qb aA gI rfl rfl rfl rfl) (.d (.float [(0,true),(1,true),(2,true),(3,true),(4,false),(5,true)] UR ?_)))⟩⟩));refine⟨rfl,⟨rfl,_,aA,⟨rfl,_,rfl,(bk h λt tq h=>(Bf (rN tq) ⟨.aM ⟨.i,.i,.s,.i,(.rd y),⟨⟩⟩,.aM ⟨.b,.i,.s,⟨⟩⟩,⟨⟩⟩ (.d (.d (sD h (λAM h=>?_) (λAM h=>?_))))))⟩⟩⟩;refine .d ⟨rfl,_,rfl,⟨rfl,_,λ_=>[.int .i64 e.aj,.int .i64 e.ao,.str e.aq,.int .i64 e.ak,.own 2 0 0 e.ae.length],rfl,aB rfl,?_⟩⟩;obtain rfl:=si h;refine⟨rfl,_,rfl,(.ab 2 k.toNat 7 6 (λX=>[.dead,.row 0 5 1 26 (λ_=>[.int .i64 e.aj,.int .i64 e.ao,.str e.aq,.int .i64 e.ak,.own 2 0 0 e.ae.length]),.row 0 8 e.ae.length 51 (ax w k.toNat [.bool a.ar.av,.int .i64 a.ar.ao,.str a.ar.aq,.int .i64 a.ah.aj,.int .i64 a.ah.ao,.str a.ah.aq,.int .i64 a.ah.ak,.aG 8 a.ah.ae.length 51 j X]),.row 0 5 1 26 (λ_=>[.int .i64 e.aj,.int .i64 e.ao,.str e.aq,.int .i64 e.ak,.own 2 0 0 e.ae.length]),.dead,.row 0 3 1 37 (λ_=>eU.lit),.dead]) (λX=>eV [.bool a.ar.av,.int .i64 a.ar.ao,.str a.ar.aq,.int .i64 a.ah.aj,.int .i64 a.ah.ao,.str a.ah.aq,.int .i64 a.ah.ak,.own 6 0 0 a.ah.ae.length] [.bool a.ar.av,.int .i64 a.ar.ao,.str a.ar.aq,.int .i64 a.ah.aj,.int .i64 a.ah.ao,.str a.ah.aq,.int .i64 a.ah.ak,.aG 8 a.ah.ae.length 51 j X] (ax w k.toNat [.bool a.ar.av,.int .i64 a.ar.ao,.str a.ar.aq,.int .i64 a.ah.aj,.int .i64 a.ah.ao,.str a.ah.aq,.int .i64 a.ah.ak,.aG 8 a.ah.ae.length 51 j X]) (DR.lt B E) aA aA bz (y).po rfl rfl rfl rfl UO rfl) λX=>?_)⟩;have Y:DR af.D e.ae.length (ax w k.toNat [.bool a.ar.av,.int .i64 a.ar.ao,.str a.ar.aq,.int .i64 a.ah.aj,.int .i64 a.ah.ao,.str a.ah.aq,.int .i64 a.ah.ak,.aG 8 a.ah.ae.length 51 j X]) (e.ae.set k.toNat a):=DR.set B (bJ E) (af.dz (x:=a) y:af.D [.bool a.ar.av,.int .i64 a.ar.ao,.str a.ar.aq,.int .i64 a.ah.aj,.int .i64 a.ah.ao,.str a.ah.aq,.int .i64 a.ah.ak,.aG 8 a.ah.ae.length 51 j X] a);exact en [] ⟨rfl,rfl⟩ (.aM ⟨.i,.i,.s,.i,(.rd Y (by first | rfl | exact Y.len | exact Y.len.symm)),⟨⟩⟩) ⟨⟩;refine⟨rfl,⟨rfl,⟨rfl,_,aA,(bk h λc K h=>?_)⟩⟩⟩;obtain⟨LN,m,Hn,A⟩:=af.ew (DR.idx y K);refine⟨rfl,DR.bd y K,_,Sx _,⟨rfl,(lg (a7.round ?_:a7 _ _ [(1,sl 3 az.cells a1),(4,.aH 1 0 0 0),(5,.aH 3 0 0 0),(6,.aH 6 0 t.toNat 3),(20,sl 3 az.cells T),(21,.int .i64 (T.length:Int)),(22,.int .i64 (bc ((bc (0+1))+1)))] [.dead,.row 0 5 1 26 (λ_=>[.int .i64 0,.int .i64 0,.str [],.int .i64 0,.aD]),.row 0 8 e.ae.length 51 (ax w k.toNat [.bool a.ar.av,.int .i64 a.ar.ao,.str a.ar.aq,.int .i64 a.ah.aj,.int .i64 a.ah.ao,.str a.ah.aq,.int .i64 a.ah.ak,.own 6 0 0 a.ah.ae.length]),.row 0 5 1 26 (λ_=>[.int .i64 e.aj,.int .i64 e.ao,.str e.aq,.int .i64 e.ak,.own 2 0 0 e.ae.length]),.dead,.dead,.row 0 8 a.ah.ae.length 51 j]) (tk [0,1,2,3,4,5,6] ⟨.l,.p,.p,(.aH _ _ _ _ _ _ _ _ _ _ _ _ _ _ rfl rfl rfl (DR.lt y K)),.l,.i,.i,⟨⟩⟩ ⟨dd,(nb rfl ⟨.i,.i,.s,.i,.aD,⟨⟩⟩),(Hd B ⟨.b,.i,.s,.i,.i,.s,.i,.o,⟨⟩⟩),(nb rfl ⟨.i,.i,.s,.i,.o,⟨⟩⟩),dd,dd,(tK y),⟨⟩⟩))⟩⟩;refine .d (.d (sD h (λAX h=>?_) (λAX h=>?_)));refine .d (.d (bk h λZ Ky h=>⟨bP Ky,_,(bx Ky).trans (az.aO Z),⟨rfl,_,λ_=>[.bool Z.av,.int .i64 Z.ao,.str Z.aq],rfl,aB rfl,(.ex [.dead,.row 0 5 1 26 (λ_=>[.int .i64 0,.int .i64 0,.str [],.int .i64 0,.aD]),.row 0 8 e.ae.length 51 (ax w k.toNat [.bool a.ar.av,.int .i64 a.ar.ao,.str a.ar.aq,.int .i64 a.ah.aj,.int .i64 a.ah.ao,.str a.ah.aq,.int .i64 a.ah.ak,.own 6 0 0 a.ah.ae.length]),.row 0 5 1 26 (λ_=>[.int .i64 e.aj,.int .i64 e.ao,.str e.aq,.int .i64 e.ak,.own 2 0 0 e.ae.length]),.dead,.dead,.row 0 8 a.ah.ae.length 51 (ax j t.toNat [.bool c.ar.av,.int .i64 c.ar.ao,.str c.ar.aq,.int .i64 c.ah.aj,.int .i64 c.ah.ao,.str c.ah.aq,.int .i64 c.ah.ak,.own 8 0 0 c.ah.ae.length]),.row 0 3 1 37 (λ_=>Z.lit),.row 0 8 c.ah.ae.length 51 m] (zq 6 7 [.bool c.ar.av,.int .i64 c.ar.ao,.str c.ar.aq,.int .i64 c.ah.aj,.int .i64 c.ah.ao,.str c.ah.aq,.int .i64 c.ah.ak,.aG 8 c.ah.ae.length 51 m LN] [.bool c.ar.av,.int .i64 c.ar.ao,.str c.ar.aq,.int .i64 c.ah.aj,.int .i64 c.ah.ao,.str c.ah.aq,.int .i64 c.ah.ak,.own 8 0 0 c.ah.ae.length] (ax j t.toNat [.bool c.ar.av,.int .i64 c.ar.ao,.str c.ar.aq,.int .i64 c.ah.aj,.int .i64 c.ah.ao,.str c.ah.aq,.int .i64 c.ah.ak,.own 8 0 0 c.ah.ae.length]) (DR.lt y K) Hn aA gI rfl rfl rfl rfl) (.d (.float [(0,true),(1,true),(2,true),(3,true),(4,false),(5,true)] UR ?_)))⟩⟩));refine⟨rfl,⟨rfl,_,aA,⟨rfl,_,rfl,(bk h λn Hp h=>(Bf (rN Hp) ⟨.aM ⟨.i,.i,.s,.i,(.rd A),⟨⟩⟩,.aM ⟨.b,.i,.s,⟨⟩⟩,⟨⟩⟩ (.d (.d (sD h (λBu h=>?_) (λBu h=>?_))))))⟩⟩⟩;refine .d ⟨rfl,_,rfl,⟨rfl,_,λ_=>[.int .i64 e.aj,.int .i64 e.ao,.str e.aq,.int .i64 e.ak,.own 2 0 0 e.ae.length],rfl,aB rfl,?_⟩⟩;obtain rfl:=si h;refine⟨rfl,_,rfl,(.ab 6 t.toNat 7 8 (λM=>[.dead,.row 0 5 1 26 (λ_=>[.int .i64 e.aj,.int .i64 e.ao,.str e.aq,.int .i64 e.ak,.own 2 0 0 e.ae.length]),.row 0 8 e.ae.length 51 (ax w k.toNat [.bool a.ar.av,.int .i64 a.ar.ao,.str a.ar.aq,.int .i64 a.ah.aj,.int .i64 a.ah.ao,.str a.ah.aq,.int .i64 a.ah.ak,.own 6 0 0 a.ah.ae.length]),.row 0 5 1 26 (λ_=>[.int .i64 e.aj,.int .i64 e.ao,.str e.aq,.int .i64 e.ak,.own 2 0 0 e.ae.length]),.dead,.dead,.row 0 8 a.ah.ae.length 51 (ax j t.toNat [.bool c.ar.av,.int .i64 c.ar.ao,.str c.ar.aq,.int .i64 c.ah.aj,.int .i64 c.ah.ao,.str c.ah.aq,.int .i64 c.ah.ak,.aG 8 c.ah.ae.length 51 m M]),.row 0 3 1 37 (λ_=>Z.lit),.dead]) (λM=>eV [.bool c.ar.av,.int .i64 c.ar.ao,.str c.ar.aq,.int .i64 c.ah.aj,.int .i64 c.ah.ao,.str c.ah.aq,.int .i64 c.ah.ak,.own 8 0 0 c.ah.ae.length] [.bool c.ar.av,.int .i64 c.ar.ao,.str c.ar.aq,.int .i64 c.ah.aj,.int .i64 c.ah.ao,.str c.ah.aq,.int .i64 c.ah.ak,.aG 8 c.ah.ae.length 51 m M] (ax j t.toNat [.bool c.ar.av,.int .i64 c.ar.ao,.str c.ar.aq,.int .i64 c.ah.aj,.int .i64 c.ah.ao,.str c.ah.aq,.int .i64 c.ah.ak,.aG 8 c.ah.ae.length 51 m M]) (DR.lt y K) aA aA bz (A).po rfl rfl rfl rfl UO rfl) λM=>?_)⟩;have aK:DR af.D a.ah.ae.length (ax j t.toNat [.bool c.ar.av,.int .i64 c.ar.ao,.str c.ar.aq,.int .i64 c.ah.aj,.int .i64 c.ah.ao,.str c.ah.aq,.int .i64 c.ah.ak,.aG 8 c.ah.ae.length 51 m M]) (a.ah.ae.set t.toNat c):=DR.set y (bJ K) (af.dz (x:=c) A:af.D [.bool c.ar.av,.int .i64 c.ar.ao,.str c.ar.aq,.int .i64 c.ah.aj,.int .i64 c.ah.ao,.str c.ah.aq,.int .i64 c.ah.ak,.aG 8 c.ah.ae.length 51 m M] c);refine .ab 2 k.toNat 7 6 (λuT=>[.dead,.row 0 5 1 26 (λ_=>[.int .i64 e.aj,.int .i64 e.ao,.str e.aq,.int .i64 e.ak,.own 2 0 0 e.ae.length]),.row 0 8 e.ae.length 51 (ax w k.toNat [.bool a.ar.av,.int .i64 a.ar.ao,.str a.ar.aq,.int .i64 a.ah.aj,.int .i64 a.ah.ao,.str a.ah.aq,.int .i64 a.ah.ak,.aG 8 a.ah.ae.length 51 (ax j t.toNat [.bool c.ar.av,.int .i64 c.ar.ao,.str c.ar.aq,.int .i64 c.ah.aj,.int .i64 c.ah.ao,.str c.ah.aq,.int .i64 c.ah.ak,.aG 8 c.ah.ae.length 51 m M]) uT]),.row 0 5 1 26 (λ_=>[.int .i64 e.aj,.int .i64 e.ao,.str e.aq,.int .i64 e.ak,.own 2 0 0 e.ae.length]),.dead,.dead,.dead,.row 0 3 1 37 (λ_=>Z.lit),.dead]) (λuT=>eV [.bool a.ar.av,.int .i64 a.ar.ao,.str a.ar.aq,.int .i64 a.ah.aj,.int .i64 a.ah.ao,.str a.ah.aq,.int .i64 a.ah.ak,.own 6 0 0 a.ah.ae.length] [.bool a.ar.av,.int .i64 a.ar.ao,.str a.ar.aq,.int .i64 a.ah.aj,.int .i64 a.ah.ao,.str a.ah.aq,.int .i64 a.ah.ak,.aG 8 a.ah.ae.length 51 (ax j t.toNat [.bool c.ar.av,.int .i64 c.ar.ao,.str c.ar.aq,.int .i64 c.ah.aj,.int .i64 c.ah.ao,.str c.ah.aq,.int .i64 c.ah.ak,.aG 8 c.ah.ae.length 51 m M]) uT] (ax w k.toNat [.bool a.ar.av,.int .i64 a.ar.ao,.str a.ar.aq,.int .i64 a.ah.aj,.int .i64 a.ah.ao,.str a.ah.aq,.int .i64 a.ah.ak,.aG 8 a.ah.ae.length 51 (ax j t.toNat [.bool c.ar.av,.int .i64 c.ar.ao,.str c.ar.aq,.int .i64 c.ah.aj,.int .i64 c.ah.ao,.str c.ah.aq,.int .i64 c.ah.ak,.aG 8 c.ah.ae.length 51 m M]) uT]) (DR.lt B E) aA aA bz (aK).po rfl rfl rfl rfl UO rfl) λuT=>?_;have aa:DR af.D e.ae.length (ax w k.toNat [.bool a.ar.av,.int .i64 a.ar.ao,.str a.ar.aq,.int .i64 a.ah.aj,.int .i64 a.ah.ao,.str a.ah.aq,.int .i64 a.ah.ak,.aG 8 a.ah.ae.length 51 (ax j t.toNat [.bool c.ar.av,.int .i64 c.ar.ao,.str c.ar.aq,.int .i64 c.ah.aj,.int .i64 c.ah.ao,.str c.ah.aq,.int .i64 c.ah.ak,.aG 8 c.ah.ae.length 51 m M]) uT]) (e.ae.set k.toNat (af.mk a.ar (ai.mk a.ah.aj a.ah.ao a.ah.aq a.ah.ak (a.ah.ae.set t.toNat c)))):=DR.set B (bJ E) (af.dz (x:=(af.mk a.ar (ai.mk a.ah.aj a.ah.ao a.ah.aq a.ah.ak (a.ah.ae.set t.toNat c)))) aK:af.D [.bool a.ar.av,.int .i64 a.ar.ao,.str a.ar.aq,.int .i64 a.ah.aj,.int .i64 a.ah.ao,.str a.ah.aq,.int .i64 a.ah.ak,.aG 8 a.ah.ae.length 51 (ax j t.toNat [.bool c.ar.av,.int .i64 c.ar.ao,.str c.ar.aq,.int .i64 c.ah.aj,.int .i64 c.ah.ao,.str c.ah.aq,.int .i64 c.ah.ak,.aG 8 c.ah.ae.length 51 m M]) uT] (af.mk a.ar (ai.mk a.ah.aj a.ah.ao a.ah.aq a.ah.ak (a.ah.ae.set t.toNat c))));exact en [] ⟨rfl,rfl⟩ (.aM ⟨.i,.i,.s,.i,(.rd aa (by first | rfl | exact aa.len | exact aa.len.symm)),⟨⟩⟩) ⟨⟩;refine⟨rfl,⟨rfl,⟨rfl,_,aA,(bk h λf U h=>?_)⟩⟩⟩;obtain⟨Qc,u,Qd,L⟩:=af.ew (DR.idx A U);refine⟨rfl,DR.bd A U,_,Sx _,⟨rfl,(lg (a7.round ?_:a7 _ _ [(1,sl 3 az.cells a1),(4,.aH 1 0 0 0),(5,.aH 3 0 0 0),(6,.aH 8 0 n.toNat 3),(20,sl 3 az.cells T),(21,.int .i64 (T.length:Int)),(22,.int .i64 (bc ((bc ((bc (0+1))+1))+1)))] [.dead,.row 0 5 1 26 (λ_=>[.int .i64 0,.int .i64 0,.str [],.int .i64 0,.aD]),.row 0 8 e.ae.length 51 (ax w k.toNat [.bool a.ar.av,.int .i64 a.ar.ao,.str a.ar.aq,.int .i64 a.ah.aj,.int .i64 a.ah.ao,.str a.ah.aq,.int .i64 a.ah.ak,.own 6 0 0 a.ah.ae.length]),.row 0 5 1 26 (λ_=>[.int .i64 e.aj,.int .i64 e.ao,.str e.aq,.int .i64 e.ak,.own 2 0 0 e.ae.length]),.dead,.dead,.row 0 8 a.ah.ae.length 51 (ax j t.toNat [.bool c.ar.av,.int .i64 c.ar.ao,.str c.ar.aq,.int .i64 c.ah.aj,.int .i64 c.ah.ao,.str c.ah.aq,.int .i64 c.ah.ak,.own 8 0 0 c.ah.ae.length]),.dead,.row 0 8 c.ah.ae.length 51 m]) (tk [0,1,2,3,4,5,6,7,8] ⟨.l,.p,.p,(.aH _ _ _ _ _ _ _ _ _ _ _ _ _ _ rfl rfl rfl (DR.lt A U)),.l,.i,.i,⟨⟩⟩ ⟨dd,(nb rfl ⟨.i,.i,.s,.i,.aD,⟨⟩⟩),(Hd B ⟨.b,.i,.s,.i,.i,.s,.i,.o,⟨⟩⟩),(nb rfl ⟨.i,.i,.s,.i,.o,⟨⟩⟩),dd,dd,(Hd y ⟨.b,.i,.s,.i,.i,.s,.i,.o,⟨⟩⟩),dd,(tK A),⟨⟩⟩))⟩⟩;refine .d (.d (sD h (λA2 h=>?_) (λA2 h=>?_)));refine .d (.d (bk h λV Kz h=>⟨bP Kz,_,(bx Kz).trans (az.aO V),⟨rfl,_,λ_=>[.bool V.av,.int .i64 V.ao,.str V.aq],rfl,aB rfl,(.ex [.dead,.row 0 5 1 26 (λ_=>[.int .i64 0,.int .i64 0,.str [],.int .i64 0,.aD]),.row 0 8 e.ae.length 51 (ax w k.toNat [.bool a.ar.av,.int .i64 a.ar.ao,.str a.ar.aq,.int .i64 a.ah.aj,.int .i64 a.ah.ao,.str a.ah.aq,.int .i64 a.ah.ak,.own 6 0 0 a.ah.ae.length]),.row 0 5 1 26 (λ_=>[.int .i64 e.aj,.int .i64 e.ao,.str e.aq,.int .i64 e.ak,.own 2 0 0 e.ae.length]),.dead,.dead,.row 0 8 a.ah.ae.length 51 (ax j t.toNat [.bool c.ar.av,.int .i64 c.ar.ao,.str c.ar.aq,.int .i64 c.ah.aj,.int .i64 c.ah.ao,.str c.ah.aq,.int .i64 c.ah.ak,.own 8 0 0 c.ah.ae.length]),.dead,.row 0 8 c.ah.ae.length 51 (ax m n.toNat [.bool f.ar.av,.int .i64 f.ar.ao,.str f.ar.aq,.int .i64 f.ah.aj,.int .i64 f.ah.ao,.str f.ah.aq,.int .i64 f.ah.ak,.own 10 0 0 f.ah.ae.length]),.row 0 3 1 37 (λ_=>V.lit),.row 0 8 f.ah.ae.length 51 u] (zq 8 7 [.bool f.ar.av,.int .i64 f.ar.ao,.str f.ar.aq,.int .i64 f.ah.aj,.int .i64 f.ah.ao,.str f.ah.aq,.int .i64 f.ah.ak,.aG 8 f.ah.ae.length 51 u Qc] [.bool f.ar.av,.int .i64 f.ar.ao,.str f.ar.aq,.int .i64 f.ah.aj,.int .i64 f.ah.ao,.str f.ah.aq,.int .i64 f.ah.ak,.own 10 0 0 f.ah.ae.length] (ax m n.toNat [.bool f.ar.av,.int .i64 f.ar.ao,.str f.ar.aq,.int .i64 f.ah.aj,.int .i64 f.ah.ao,.str f.ah.aq,.int .i64 f.ah.ak,.own 10 0 0 f.ah.ae.length]) (DR.lt A U) Qd aA gI rfl rfl rfl rfl) (.d (.float [(0,true),(1,true),(2,true),(3,true),(4,false),(5,true)] UR ?_)))⟩⟩));refine⟨rfl,⟨rfl,_,aA,⟨rfl,_,rfl,(bk h λa3 A3 h=>(Bf (rN A3) ⟨.aM ⟨.i,.i,.s,.i,(.rd L),⟨⟩⟩,.aM ⟨.b,.i,.s,⟨⟩⟩,⟨⟩⟩ (.d (.d (sD h (λGy h=>?_) (λGy h=>?_))))))⟩⟩⟩;refine .d ⟨rfl,_,rfl,⟨rfl,_,λ_=>[.int .i64 e.aj,.int .i64 e.ao,.str e.aq,.int .i64 e.ak,.own 2 0 0 e.ae.length],rfl,aB rfl,?_⟩⟩;obtain rfl:=si h;refine⟨rfl,_,rfl,(.ab 8 n.toNat 7 10 (λF=>[.dead,.row 0 5 1 26 (λ_=>[.int .i64 e.aj,.int .i64 e.ao,.str e.aq,.int .i64 e.ak,.own 2 0 0 e.ae.length]),.row 0 8 e.ae.length 51 (ax w k.toNat [.bool a.ar.av,.int .i64 a.ar.ao,.str a.ar.aq,.int .i64 a.ah.aj,.int .i64 a.ah.ao,.str a.ah.aq,.int .i64 a.ah.ak,.own 6 0 0 a.ah.ae.length]),.row 0 5 1 26 (λ_=>[.int .i64 e.aj,.int .i64 e.ao,.str e.aq,.int .i64 e.ak,.own 2 0 0 e.ae.length]),.dead,.dead,.row 0 8 a.ah.ae.length 51 (ax j t.toNat [.bool c.ar.av,.int .i64 c.ar.ao,.str c.ar.aq,.int .i64 c.ah.aj,.int .i64 c.ah.ao,.str c.ah.aq,.int .i64 c.ah.ak,.own 8 0 0 c.ah.ae.length]),.dead,.row 0 8 c.ah.ae.length 51 (ax m n.toNat [.bool f.ar.av,.int .i64 f.ar.ao,.str f.ar.aq,.int .i64 f.ah.aj,.int .i64 f.ah.ao,.str f.ah.aq,.int .i64 f.ah.ak,.aG 8 f.ah.ae.length 51 u F]),.row 0 3 1 37 (λ_=>V.lit),.dead]) (λF=>eV [.bool f.ar.av,.int .i64 f.ar.ao,.str f.ar.aq,.int .i64 f.ah.aj,.int .i64 f.ah.ao,.str f.ah.aq,.int .i64 f.ah.ak,.own 10 0 0 f.ah.ae.length] [.bool f.ar.av,.int .i64 f.ar.ao,.str f.ar.aq,.int .i64 f.ah.aj,.int .i64 f.ah.ao,.str f.ah.aq,.int .i64 f.ah.ak,.aG 8 f.ah.ae.length 51 u F] (ax m n.toNat [.bool f.ar.av,.int .i64 f.ar.ao,.str f.ar.aq,.int .i64 f.ah.aj,.int .i64 f.ah.ao,.str f.ah.aq,.int .i64 f.ah.ak,.aG 8 f.ah.ae.length 51 u F]) (DR.lt A U) aA aA bz (L).po rfl rfl rfl rfl UO rfl) λF=>?_)⟩;have aL:DR af.D c.ah.ae.length (ax m n.toNat [.bool f.ar.av,.int .i64 f.ar.ao,.str f.ar.aq,.int .i64 f.ah.aj,.int .i64 f.ah.ao,.str f.ah.aq,.int .i64 f.ah.ak,.aG 8 f.ah.ae.length 51 u F]) (c.ah.ae.set n.toNat f):=DR.set A (bJ U) (af.dz (x:=f) L:af.D [.bool f.ar.av,.int .i64 f.ar.ao,.str f.ar.aq,.int .i64 f.ah.aj,.int .i64 f.ah.ao,.str f.ah.aq,.int .i64 f.ah.ak,.aG 8 f.ah.ae.length 51 u F] f);refine .ab 6 t.toNat 7 8 (λN=>[.dead,.row 0 5 1 26 (λ_=>[.int .i64 e.aj,.int .i64 e.ao,.str e.aq,.int .i64 e.ak,.own 2 0 0 e.ae.length]),.row 0 8 e.ae.length 51 (ax w k.toNat [.bool a.ar.av,.int .i64 a.ar.ao,.str a.ar.aq,.int .i64 a.ah.aj,.int .i64 a.ah.ao,.str a.ah.aq,.int .i64 a.ah.ak,.own 6 0 0 a.ah.ae.length]),.row 0 5 1 26 (λ_=>[.int .i64 e.aj,.int .i64 e.ao,.str e.aq,.int .i64 e.ak,.own 2 0 0 e.ae.length]),.dead,.dead,.row 0 8 a.ah.ae.length 51 (ax j t.toNat [.bool c.ar.av,.int .i64 c.ar.ao,.str c.ar.aq,.int .i64 c.ah.aj,.int .i64 c.ah.ao,.str c.ah.aq,.int .i64 c.ah.ak,.aG 8 c.ah.ae.length 51 (ax m n.toNat [.bool f.ar.av,.int .i64 f.ar.ao,.str f.ar.aq,.int .i64 f.ah.aj,.int .i64 f.ah.ao,.str f.ah.aq,.int .i64 f.ah.ak,.aG 8 f.ah.ae.length 51 u F]) N]),.dead,.dead,.row 0 3 1 37 (λ_=>V.lit),.dead]) (λN=>eV [.bool c.ar.av,.int .i64 c.ar.ao,.str c.ar.aq,.int .i64 c.ah.aj,.int .i64 c.ah.ao,.str c.ah.aq,.int .i64 c.ah.ak,.own 8 0 0 c.ah.ae.length] [.bool c.ar.av,.int .i64 c.ar.ao,.str c.ar.aq,.int .i64 c.ah.aj,.int .i64 c.ah.ao,.str c.ah.aq,.int .i64 c.ah.ak,.aG 8 c.ah.ae.length 51 (ax m n.toNat [.bool f.ar.av,.int .i64 f.ar.ao,.str f.ar.aq,.int .i64 f.ah.aj,.int .i64 f.ah.ao,.str f.ah.aq,.int .i64 f.ah.ak,.aG 8 f.ah.ae.length 51 u F]) N] (ax j t.toNat [.bool c.ar.av,.int .i64 c.ar.ao,.str c.ar.aq,.int .i64 c.ah.aj,.int .i64 c.ah.ao,.str c.ah.aq,.int .i64 c.ah.ak,.aG 8 c.ah.ae.length 51 (ax m n.toNat [.bool f.ar.av,.int .i64 f.ar.ao,.str f.ar.aq,.int .i64 f.ah.aj,.int .i64 f.ah.ao,.str f.ah.aq,.int .i64 f.ah.ak,.aG 8 f.ah.ae.length 51 u F]) N]) (DR.lt y K) aA aA bz (aL).po rfl rfl rfl rfl UO rfl) λN=>?_;have aU:DR af.D a.ah.ae.length (ax j t.toNat [.bool c.ar.av,.int .i64 c.ar.ao,.str c.ar.aq,.int .i64 c.ah.aj,.int .i64 c.ah.ao,.str c.ah.aq,.int .i64 c.ah.ak,.aG 8 c.ah.ae.length 51 (ax m n.toNat [.bool f.ar.av,.int .i64 f.ar.ao,.str f.ar.aq,.int .i64 f.ah.aj,.int .i64 f.ah.ao,.str f.ah.aq,.int .i64 f.ah.ak,.aG 8 f.ah.ae.length 51 u F]) N]) (a.ah.ae.set t.toNat (af.mk c.ar (ai.mk c.ah.aj c.ah.ao c.ah.aq c.ah.ak (c.ah.ae.set n.toNat f)))):=DR.set y (bJ K) (af.dz (x:=(af.mk c.ar (ai.mk c.ah.aj c.ah.ao c.ah.aq c.ah.ak (c.ah.ae.set n.toNat f)))) aL:af.D [.bool c.ar.av,.int .i64 c.ar.ao,.str c.ar.aq,.int .i64 c.ah.aj,.int .i64 c.ah.ao,.str c.ah.aq,.int .i64 c.ah.ak,.aG 8 c.ah.ae.length 51 (ax m n.toNat [.bool f.ar.av,.int .i64 f.ar.ao,.str f.ar.aq,.int .i64 f.ah.aj,.int .i64 f.ah.ao,.str f.ah.aq,.int .i64 f.ah.ak,.aG 8 f.ah.ae.length 51 u F]) N] (af.mk c.ar (ai.mk c.ah.aj c.ah.ao c.ah.aq c.ah.ak (c.ah.ae.set n.toNat f))));refine .ab 2 k.toNat 7 6 (λHW=>[.dead,.row 0 5 1 26 (λ_=>[.int .i64 e.aj,.int .i64 e.ao,.str e.aq,.int .i64 e.ak,.own 2 0 0 e.ae.length]),.row 0 8 e.ae.length 51 (ax w k.toNat [.bool a.ar.av,.int .i64 a.ar.ao,.str a.ar.aq,.int .i64 a.ah.aj,.int .i64 a.ah.ao,.str a.ah.aq,.int .i64 a.ah.ak,.aG 8 a.ah.ae.length 51 (ax j t.toNat [.bool c.ar.av,.int .i64 c.ar.ao,.str c.ar.aq,.int .i64 c.ah.aj,.int .i64 c.ah.ao,.str c.ah.aq,.int .i64 c.ah.ak,.aG 8 c.ah.ae.length 51 (ax m n.toNat [.bool f.ar.av,.int .i64 f.ar.ao,.str f.ar.aq,.int .i64 f.ah.aj,.int .i64 f.ah.ao,.str f.ah.aq,.int .i64 f.ah.ak,.aG 8 f.ah.ae.length 51 u F]) N]) HW]),.row 0 5 1 26 (λ_=>[.int .i64 e.aj,.int .i64 e.ao,.str e.aq,.int .i64 e.ak,.own 2 0 0 e.ae.length]),.dead,.dead,.dead,.dead,.dead,.row 0 3 1 37 (λ_=>V.lit),.dead]) (λHW=>eV [.bool a.ar.av,.int .i64 a.ar.ao,.str a.ar.aq,.int .i64 a.ah.aj,.int .i64 a.ah.ao,.str a.ah.aq,.int .i64 a.ah.ak,.own 6 0 0 a.ah.ae.length] [.bool a.ar.av,.int .i64 a.ar.ao,.str a.ar.aq,.int .i64 a.ah.aj,.int .i64 a.ah.ao,.str a.ah.aq,.int .i64 a.ah.ak,.aG 8 a.ah.ae.length 51 (ax j t.toNat [.bool c.ar.av,.int .i64 c.ar.ao,.str c.ar.aq,.int .i64 c.ah.aj,.int .i64 c.ah.ao,.str c.ah.aq,.int .i64 c.ah.ak,.aG 8 c.ah.ae.length 51 (ax m n.toNat [.bool f.ar.av,.int .i64 f.ar.ao,.str f.ar.aq,.int .i64 f.ah.aj,.int .i64 f.ah.ao,.str f.ah.aq,.int .i64 f.ah.ak,.aG 8 f.ah.ae.length 51 u F]) N]) HW] (ax w k.toNat [.bool a.ar.av,.int .i64 a.ar.ao,.str a.ar.aq,.int .i64 a.ah.aj,.int .i64 a.ah.ao,.str a.ah.aq,.int .i64 a.ah.ak,.aG 8 a.ah.ae.length 51 (ax j t.toNat [.bool c.ar.av,.int .i64 c.ar.ao,.str c.ar.aq,.int .i64 c.ah.aj,.int .i64 c.ah.ao,.str c.ah.aq,.int .i64 c.ah.ak,.aG 8 c.ah.ae.length 51 (ax m n.toNat [.bool f.ar.av,.int .i64 f.ar.ao,.str f.ar.aq,.int .i64 f.ah.aj,.int .i64 f.ah.ao,.str f.ah.aq,.int .i64 f.ah.ak,.aG 8 f.ah.ae.length 51 u F]) N]) HW]) (DR.lt B E) aA aA bz (aU).po rfl rfl rfl rfl UO rfl) λHW=>?_;have ad:DR af.D e.ae.length (ax w k.toNat [.bool a.ar.av,.int .i64 a.ar.ao,.str a.ar.aq,.int .i64 a.ah.aj,.int .i64 a.ah.ao,.str a.ah.aq,.int .i64 a.ah.ak,.aG 8 a.ah.ae.length 51 (ax j t.toNat [.bool c.ar.av,.int .i64 c.ar.ao,.str c.ar.aq,.int .i64 c.ah.aj,.int .i64 c.ah.ao,.str c.ah.aq,.int .i64 c.ah.ak,.aG 8 c.ah.ae.length 51 (ax m n.toNat [.bool f.ar.av,.int .i64 f.ar.ao,.str f.ar.aq,.int .i64 f.ah.aj,.int .i64 f.ah.ao,.str f.ah.aq,.int .i64 f.ah.ak,.aG 8 f.ah.ae.length 51 u F]) N]) HW]) (e.ae.set k.toNat (af.mk a.ar (ai.mk a.ah.aj a.ah.ao a.ah.aq a.ah.ak (a.ah.ae.set t.toNat (af.mk c.ar (ai.mk c.ah.aj c.ah.ao c.ah.aq c.ah.ak (c.ah.ae.set n.toNat f))))))):=DR.set B (bJ E) (af.dz (x:=(af.mk a.ar (ai.mk a.ah.aj a.ah.ao a.ah.aq a.ah.ak (a.ah.ae.set t.toNat (af.mk c.ar (ai.mk c.ah.aj c.ah.ao c.ah.aq c.ah.ak (c.ah.ae.set n.toNat f))))))) aU:af.D [.bool a.ar.av,.int .i64 a.ar.ao,.str a.ar.aq,.int .i64 a.ah.aj,.int .i64 a.ah.ao,.str a.ah.aq,.int .i64 a.ah.ak,.aG 8 a.ah.ae.length 51 (ax j t.toNat [.bool c.ar.av,.int .i64 c.ar.ao,.str c.ar.aq,.int .i64 c.ah.aj,.int .i64 c.ah.ao,.str c.ah.aq,.int .i64 c.ah.ak,.aG 8 c.ah.ae.length 51 (ax m n.toNat [.bool f.ar.av,.int .i64 f.ar.ao,.str f.ar.aq,.int .i64 f.ah.aj,.int .i64 f.ah.ao,.str f.ah.aq,.int .i64 f.ah.ak,.aG 8 f.ah.ae.length 51 u F]) N]) HW] (af.mk a.ar (ai.mk a.ah.aj a.ah.ao a.ah.aq a.ah.ak (a.ah.ae.set t.toNat (af.mk c.ar (ai.mk c.ah.aj c.ah.ao c.ah.aq c.ah.ak (c.ah.ae.set n.toNat f)))))));exact en [] ⟨rfl,rfl⟩ (.aM ⟨.i,.i,.s,.i,(.rd ad (by first | rfl | exact ad.len | exact ad.len.symm)),⟨⟩⟩) ⟨⟩;refine⟨rfl,⟨rfl,⟨rfl,_,aA,(bk h λRj KA h=>?_)⟩⟩⟩;obtain⟨Sn,a4,So,a5⟩:=af.ew (DR.idx L KA);refine⟨rfl,DR.bd L KA,_,Sx _,⟨rfl,?_⟩⟩;cases h;refine .ex [.dead,.row 0 5 1 26 (λ_=>[.int .i64 0,.int .i64 0,.str [],.int .i64 0,.aD]),.row 0 8 e.ae.length 51 (ax w k.toNat [.bool a.ar.av,.int .i64 a.ar.ao,.str a.ar.aq,.int .i64 a.ah.aj,.int .i64 a.ah.ao,.str a.ah.aq,.int .i64 a.ah.ak,.own 6 0 0 a.ah.ae.length]),.row 0 5 1 26 (λ_=>[.int .i64 e.aj,.int .i64 e.ao,.str e.aq,.int .i64 e.ak,.own 2 0 0 e.ae.length]),.dead,.dead,.row 0 8 a.ah.ae.length 51 (ax j t.toNat [.bool c.ar.av,.int .i64 c.ar.ao,.str c.ar.aq,.int .i64 c.ah.aj,.int .i64 c.ah.ao,.str c.ah.aq,.int .i64 c.ah.ak,.own 8 0 0 c.ah.ae.length]),.dead,.row 0 8 c.ah.ae.length 51 (ax m n.toNat [.bool f.ar.av,.int .i64 f.ar.ao,.str f.ar.aq,.int .i64 f.ah.aj,.int .i64 f.ah.ao,.str f.ah.aq,.int .i64 f.ah.ak,.own 9 0 0 f.ah.ae.length]),.row 0 8 f.ah.ae.length 51 u] (zq 8 7 [.bool f.ar.av,.int .i64 f.ar.ao,.str f.ar.aq,.int .i64 f.ah.aj,.int .i64 f.ah.ao,.str f.ah.aq,.int .i64 f.ah.ak,.aG 8 f.ah.ae.length 51 u Qc] [.bool f.ar.av,.int .i64 f.ar.ao,.str f.ar.aq,.int .i64 f.ah.aj,.int .i64 f.ah.ao,.str f.ah.aq,.int .i64 f.ah.ak,.own 9 0 0 f.ah.ae.length] (ax m n.toNat [.bool f.ar.av,.int .i64 f.ar.ao,.str f.ar.aq,.int .i64 f.ah.aj,.int .i64 f.ah.ao,.str f.ah.aq,.int .i64 f.ah.ak,.own 9 0 0 f.ah.ae.length]) (DR.lt A U) Qd aA gI rfl rfl rfl rfl) (.d (.float [(0,true),(1,true),(2,true),(3,true),(4,true),(5,true),(6,true),(7,true),(8,true),(9,true),(10,false),(11,true),(12,false)] UR ?_));refine⟨rfl,⟨rfl,_,aA,(bk h λOv KB h=>⟨bP KB,_,(bx KB).trans (az.aO Ov),(bk h λg Oz h=>(yF (yo Oz) ⟨.aM ⟨.i,.i,.s,.i,(.rd L),⟨⟩⟩,.aM ⟨.b,.i,.s,⟨⟩⟩,⟨⟩⟩ (by rintro _ _ ⟨z,Q,rfl,rfl⟩;exact⟨rfl,(p9 Q.LU ub)⟩) ?_))⟩)⟩⟩;rintro _ _ ⟨z,Q,rfl,rfl⟩;refine⟨.agg [.int .i64 g.aj,.int .i64 g.ao,.str g.aq,.int .i64 g.ak,.own 10 0 0 g.ae.length],[.dead,.row 0 5 1 26 (λ_=>[.int .i64 0,.int .i64 0,.str [],.int .i64 0,.aD]),.row 0 8 e.ae.length 51 (ax w k.toNat [.bool a.ar.av,.int .i64 a.ar.ao,.str a.ar.aq,.int .i64 a.ah.aj,.int .i64 a.ah.ao,.str a.ah.aq,.int .i64 a.ah.ak,.own 6 0 0 a.ah.ae.length]),.row 0 5 1 26 (λ_=>[.int .i64 e.aj,.int .i64 e.ao,.str e.aq,.int .i64 e.ak,.own 2 0 0 e.ae.length]),.dead,.dead,.row 0 8 a.ah.ae.length 51 (ax j t.toNat [.bool c.ar.av,.int .i64 c.ar.ao,.str c.ar.aq,.int .i64 c.ah.aj,.int .i64 c.ah.ao,.str c.ah.aq,.int .i64 c.ah.ak,.own 8 0 0 c.ah.ae.length]),.dead,.row 0 8 c.ah.ae.length 51 (ax m n.toNat [.bool f.ar.av,.int .i64 f.ar.ao,.str f.ar.aq,.int .i64 f.ah.aj,.int .i64 f.ah.ao,.str f.ah.aq,.int .i64 f.ah.ak,.own 9 0 0 f.ah.ae.length]),.row 0 8 f.ah.ae.length 51 u,.row 0 8 g.ae.length 51 z],rfl,(by simp only[SE,SS,shr,DK Q];rfl),⟨rfl,⟨rfl,_,(ax m n.toNat [.bool f.ar.av,.int .i64 f.ar.ao,.str f.ar.aq,.int .i64 g.aj,.int .i64 g.ao,.str g.aq,.int .i64 g.ak,.own 10 0 0 g.ae.length]),aA,ke ⟨.same _,.same _,.same _,.same _,.same _,.same _,.same _,.same _,trivial⟩,(.d ⟨rfl,_,rfl,⟨rfl,_,λ_=>[.int .i64 e.aj,.int .i64 e.ao,.str e.aq,.int .i64 e.ak,.own 2 0 0 e.ae.length],rfl,aB rfl,?_⟩⟩)⟩⟩⟩;obtain rfl:=si h;refine⟨rfl,_,rfl,(.ab 8 n.toNat 7 10 (λG=>[.dead,.row 0 5 1 26 (λ_=>[.int .i64 e.aj,.int .i64 e.ao,.str e.aq,.int .i64 e.ak,.own 2 0 0 e.ae.length]),.row 0 8 e.ae.length 51 (ax w k.toNat [.bool a.ar.av,.int .i64 a.ar.ao,.str a.ar.aq,.int .i64 a.ah.aj,.int .i64 a.ah.ao,.str a.ah.aq,.int .i64 a.ah.ak,.own 6 0 0 a.ah.ae.length]),.row 0 5 1 26 (λ_=>[.int .i64 e.aj,.int .i64 e.ao,.str e.aq,.int .i64 e.ak,.own 2 0 0 e.ae.length]),.dead,.dead,.row 0 8 a.ah.ae.length 51 (ax j t.toNat [.bool c.ar.av,.int .i64 c.ar.ao,.str c.ar.aq,.int .i64 c.ah.aj,.int .i64 c.ah.ao,.str c.ah.aq,.int .i64 c.ah.ak,.own 8 0 0 c.ah.ae.length]),.dead,.row 0 8 c.ah.ae.length 51 (ax m n.toNat [.bool f.ar.av,.int .i64 f.ar.ao,.str f.ar.aq,.int .i64 g.aj,.int .i64 g.ao,.str g.aq,.int .i64 g.ak,.aG 8 g.ae.length 51 z G]),.row 0 8 f.ah.ae.length 51 u,.dead]) (λG=>eV [.bool f.ar.av,.int .i64 f.ar.ao,.str f.ar.aq,.int .i64 g.aj,.int .i64 g.ao,.str g.aq,.int .i64 g.ak,.own 10 0 0 g.ae.length] [.bool f.ar.av,.int .i64 f.ar.ao,.str f.ar.aq,.int .i64 g.aj,.int .i64 g.ao,.str g.aq,.int .i64 g.ak,.aG 8 g.ae.length 51 z G] (ax m n.toNat [.bool f.ar.av,.int .i64 f.ar.ao,.str f.ar.aq,.int .i64 g.aj,.int .i64 g.ao,.str g.aq,.int .i64 g.ak,.aG 8 g.ae.length 51 z G]) (DR.lt A U) aA aA bz (Q).po rfl rfl rfl rfl UO rfl) λG=>?_)⟩;have aV:DR af.D c.ah.ae.length (ax m n.toNat [.bool f.ar.av,.int .i64 f.ar.ao,.str f.ar.aq,.int .i64 g.aj,.int .i64 g.ao,.str g.aq,.int .i64 g.ak,.aG 8 g.ae.length 51 z G]) (c.ah.ae.set n.toNat (af.mk f.ar g)):=DR.set A (bJ U) (af.dz (x:=(af.mk f.ar g)) Q:af.D [.bool f.ar.av,.int .i64 f.ar.ao,.str f.ar.aq,.int .i64 g.aj,.int .i64 g.ao,.str g.aq,.int .i64 g.ak,.aG 8 g.ae.length 51 z G] (af.mk f.ar g));refine .ab 6 t.toNat 7 8 (λO=>[.dead,.row 0 5 1 26 (λ_=>[.int .i64 e.aj,.int .i64 e.ao,.str e.aq,.int .i64 e.ak,.own 2 0 0 e.ae.length]),.row 0 8 e.ae.length 51 (ax w k.toNat [.bool a.ar.av,.int .i64 a.ar.ao,.str a.ar.aq,.int .i64 a.ah.aj,.int .i64 a.ah.ao,.str a.ah.aq,.int .i64 a.ah.ak,.own 6 0 0 a.ah.ae.length]),.row 0 5 1 26 (λ_=>[.int .i64 e.aj,.int .i64 e.ao,.str e.aq,.int .i64 e.ak,.own 2 0 0 e.ae.length]),.dead,.dead,.row 0 8 a.ah.ae.length 51 (ax j t.toNat [.bool c.ar.av,.int .i64 c.ar.ao,.str c.ar.aq,.int .i64 c.ah.aj,.int .i64 c.ah.ao,.str c.ah.aq,.int .i64 c.ah.ak,.aG 8 c.ah.ae.length 51 (ax m n.toNat [.bool f.ar.av,.int .i64 f.ar.ao,.str f.ar.aq,.int .i64 g.aj,.int .i64 g.ao,.str g.aq,.int .i64 g.ak,.aG 8 g.ae.length 51 z G]) O]),.dead,.dead,.row 0 8 f.ah.ae.length 51 u,.dead]) (λO=>eV [.bool c.ar.av,.int .i64 c.ar.ao,.str c.ar.aq,.int .i64 c.ah.aj,.int .i64 c.ah.ao,.str c.ah.aq,.int .i64 c.ah.ak,.own 8 0 0 c.ah.ae.length] [.bool c.ar.av,.int .i64 c.ar.ao,.str c.ar.aq,.int .i64 c.ah.aj,.int .i64 c.ah.ao,.str c.ah.aq,.int .i64 c.ah.ak,.aG 8 c.ah.ae.length 51 (ax m n.toNat [.bool f.ar.av,.int .i64 f.ar.ao,.str f.ar.aq,.int .i64 g.aj,.int .i64 g.ao,.str g.aq,.int .i64 g.ak,.aG 8 g.ae.length 51 z G]) O] (ax j t.toNat [.bool c.ar.av,.int .i64 c.ar.ao,.str c.ar.aq,.int .i64 c.ah.aj,.int .i64 c.ah.ao,.str c.ah.aq,.int .i64 c.ah.ak,.aG 8 c.ah.ae.length 51 (ax m n.toNat [.bool f.ar.av,.int .i64 f.ar.ao,.str f.ar.aq,.int .i64 g.aj,.int .i64 g.ao,.str g.aq,.int .i64 g.ak,.aG 8 g.ae.length 51 z G]) O]) (DR.lt y K) aA aA bz (aV).po rfl rfl rfl rfl UO rfl) λO=>?_;have aW:DR af.D a.ah.ae.length (ax j t.toNat [.bool c.ar.av,.int .i64 c.ar.ao,.str c.ar.aq,.int .i64 c.ah.aj,.int .i64 c.ah.ao,.str c.ah.aq,.int .i64 c.ah.ak,.aG 8 c.ah.ae.length 51 (ax m n.toNat [.bool f.ar.av,.int .i64 f.ar.ao,.str f.ar.aq,.int .i64 g.aj,.int .i64 g.ao,.str g.aq,.int .i64 g.ak,.aG 8 g.ae.length 51 z G]) O]) (a.ah.ae.set t.toNat (af.mk c.ar (ai.mk c.ah.aj c.ah.ao c.ah.aq c.ah.ak (c.ah.ae.set n.toNat (af.mk f.ar g))))):=DR.set y (bJ K) (af.dz (x:=(af.mk c.ar (ai.mk c.ah.aj c.ah.ao c.ah.aq c.ah.ak (c.ah.ae.set n.toNat (af.mk f.ar g))))) aV:af.D [.bool c.ar.av,.int .i64 c.ar.ao,.str c.ar.aq,.int .i64 c.ah.aj,.int .i64 c.ah.ao,.str c.ah.aq,.int .i64 c.ah.ak,.aG 8 c.ah.ae.length 51 (ax m n.toNat [.bool f.ar.av,.int .i64 f.ar.ao,.str f.ar.aq,.int .i64 g.aj,.int .i64 g.ao,.str g.aq,.int .i64 g.ak,.aG 8 g.ae.length 51 z G]) O] (af.mk c.ar (ai.mk c.ah.aj c.ah.ao c.ah.aq c.ah.ak (c.ah.ae.set n.toNat (af.mk f.ar g)))));refine .ab 2 k.toNat 7 6 (λw9=>[.dead,.row 0 5 1 26 (λ_=>[.int .i64 e.aj,.int .i64 e.ao,.str e.aq,.int .i64 e.ak,.own 2 0 0 e.ae.length]),.row 0 8 e.ae.length 51 (ax w k.toNat [.bool a.ar.av,.int .i64 a.ar.ao,.str a.ar.aq,.int .i64 a.ah.aj,.int .i64 a.ah.ao,.str a.ah.aq,.int .i64 a.ah.ak,.aG 8 a.ah.ae.length 51 (ax j t.toNat [.bool c.ar.av,.int .i64 c.ar.ao,.str c.ar.aq,.int .i64 c.ah.aj,.int .i64 c.ah.ao,.str c.ah.aq,.int .i64 c.ah.ak,.aG 8 c.ah.ae.length 51 (ax m n.toNat [.bool f.ar.av,.int .i64 f.ar.ao,.str f.ar.aq,.int .i64 g.aj,.int .i64 g.ao,.str g.aq,.int .i64 g.ak,.aG 8 g.ae.length 51 z G]) O]) w9]),.row 0 5 1 26 (λ_=>[.int .i64 e.aj,.int .i64 e.ao,.str e.aq,.int .i64 e.ak,.own 2 0 0 e.ae.length]),.dead,.dead,.dead,.dead,.dead,.row 0 8 f.ah.ae.length 51 u,.dead]) (λw9=>eV [.bool a.ar.av,.int .i64 a.ar.ao,.str a.ar.aq,.int .i64 a.ah.aj,.int .i64 a.ah.ao,.str a.ah.aq,.int .i64 a.ah.ak,.own 6 0 0 a.ah.ae.length] [.bool a.ar.av,.int .i64 a.ar.ao,.str a.ar.aq,.int .i64 a.ah.aj,.int .i64 a.ah.ao,.str a.ah.aq,.int .i64 a.ah.ak,.aG 8 a.ah.ae.length 51 (ax j t.toNat [.bool c.ar.av,.int .i64 c.ar.ao,.str c.ar.aq,.int .i64 c.ah.aj,.int .i64 c.ah.ao,.str c.ah.aq,.int .i64 c.ah.ak,.aG 8 c.ah.ae.length 51 (ax m n.toNat [.bool f.ar.av,.int .i64 f.ar.ao,.str f.ar.aq,.int .i64 g.aj,.int .i64 g.ao,.str g.aq,.int .i64 g.ak,.aG 8 g.ae.length 51 z G]) O]) w9] (ax w k.toNat [.bool a.ar.av,.int .i64 a.ar.ao,.str a.ar.aq,.int .i64 a.ah.aj,.int .i64 a.ah.ao,.str a.ah.aq,.int .i64 a.ah.ak,.aG 8 a.ah.ae.length 51 (ax j t.toNat [.bool c.ar.av,.int .i64 c.ar.ao,.str c.ar.aq,.int .i64 c.ah.aj,.int .i64 c.ah.ao,.str c.ah.aq,.int .i64 c.ah.ak,.aG 8 c.ah.ae.length 51 (ax m n.toNat [.bool f.ar.av,.int .i64 f.ar.ao,.str f.ar.aq,.int .i64 g.aj,.int .i64 g.ao,.str g.aq,.int .i64 g.ak,.aG 8 g.ae.length 51 z G]) O]) w9]) (DR.lt B E) aA aA bz (aW).po rfl rfl rfl rfl UO rfl) λw9=>?_;have ag:DR af.D e.ae.length (ax w k.toNat [.bool a.ar.av,.int .i64 a.ar.ao,.str a.ar.aq,.int .i64 a.ah.aj,.int .i64 a.ah.ao,.str a.ah.aq,.int .i64 a.ah.ak,.aG 8 a.ah.ae.length 51 (ax j t.toNat [.bool c.ar.av,.int .i64 c.ar.ao,.str c.ar.aq,.int .i64 c.ah.aj,.int .i64 c.ah.ao,.str c.ah.aq,.int .i64 c.ah.ak,.aG 8 c.ah.ae.length 51 (ax m n.toNat [.bool f.ar.av,.int .i64 f.ar.ao,.str f.ar.aq,.int .i64 g.aj,.int .i64 g.ao,.str g.aq,.int .i64 g.ak,.aG 8 g.ae.length 51 z G]) O]) w9]) (e.ae.set k.toNat (af.mk a.ar (ai.mk a.ah.aj a.ah.ao a.ah.aq a.ah.ak (a.ah.ae.set t.toNat (af.mk c.ar (ai.mk c.ah.aj c.ah.ao c.ah.aq c.ah.ak (c.ah.ae.set n.toNat (af.mk f.ar g)))))))):=DR.set B (bJ E) (af.dz (x:=(af.mk a.ar (ai.mk a.ah.aj a.ah.ao a.ah.aq a.ah.ak (a.ah.ae.set t.toNat (af.mk c.ar (ai.mk c.ah.aj c.ah.ao c.ah.aq c.ah.ak (c.ah.ae.set n.toNat (af.mk f.ar g)))))))) aW:af.D [.bool a.ar.av,.int .i64 a.ar.ao,.str a.ar.aq,.int .i64 a.ah.aj,.int .i64 a.ah.ao,.str a.ah.aq,.int .i64 a.ah.ak,.aG 8 a.ah.ae.length 51 (ax j t.toNat [.bool c.ar.av,.int .i64 c.ar.ao,.str c.ar.aq,.int .i64 c.ah.aj,.int .i64 c.ah.ao,.str c.ah.aq,.int .i64 c.ah.ak,.aG 8 c.ah.ae.length 51 (ax m n.toNat [.bool f.ar.av,.int .i64 f.ar.ao,.str f.ar.aq,.int .i64 g.aj,.int .i64 g.ao,.str g.aq,.int .i64 g.ak,.aG 8 g.ae.length 51 z G]) O]) w9] (af.mk a.ar (ai.mk a.ah.aj a.ah.ao a.ah.aq a.ah.ak (a.ah.ae.set t.toNat (af.mk c.ar (ai.mk c.ah.aj c.ah.ao c.ah.aq c.ah.ak (c.ah.ae.set n.toNat (af.mk f.ar g))))))));exact en [] ⟨rfl,rfl⟩ (.aM ⟨.i,.i,.s,.i,(.rd ag (by first | rfl | exact ag.len | exact ag.len.symm)),⟨⟩⟩) ⟨⟩;refine .ex [.dead,.row 0 5 1 26 (λ_=>[.int .i64 0,.int .i64 0,.str [],.int .i64 0,.aD]),.row 0 8 e.ae.length 51 (ax w k.toNat [.bool a.ar.av,.int .i64 a.ar.ao,.str a.ar.aq,.int .i64 a.ah.aj,.int .i64 a.ah.ao,.str a.ah.aq,.int .i64 a.ah.ak,.own 6 0 0 a.ah.ae.length]),.row 0 5 1 26 (λ_=>[.int .i64 e.aj,.int .i64 e.ao,.str e.aq,.int .i64 e.ak,.own 2 0 0 e.ae.length]),.dead,.dead,.row 0 8 a.ah.ae.length 51 (ax j t.toNat [.bool c.ar.av,.int .i64 c.ar.ao,.str c.ar.aq,.int .i64 c.ah.aj,.int .i64 c.ah.ao,.str c.ah.aq,.int .i64 c.ah.ak,.own 7 0 0 c.ah.ae.length]),.row 0 8 c.ah.ae.length 51 m] (zq 6 7 [.bool c.ar.av,.int .i64 c.ar.ao,.str c.ar.aq,.int .i64 c.ah.aj,.int .i64 c.ah.ao,.str c.ah.aq,.int .i64 c.ah.ak,.aG 8 c.ah.ae.length 51 m LN] [.bool c.ar.av,.int .i64 c.ar.ao,.str c.ar.aq,.int .i64 c.ah.aj,.int .i64 c.ah.ao,.str c.ah.aq,.int .i64 c.ah.ak,.own 7 0 0 c.ah.ae.length] (ax j t.toNat [.bool c.ar.av,.int .i64 c.ar.ao,.str c.ar.aq,.int .i64 c.ah.aj,.int .i64 c.ah.ao,.str c.ah.aq,.int .i64 c.ah.ak,.own 7 0 0 c.ah.ae.length]) (DR.lt y K) Hn aA gI rfl rfl rfl rfl) (.d (.float [(0,true),(1,true),(2,true),(3,true),(4,true),(5,true),(6,true),(7,true),(8,true),(9,true),(10,false),(11,true),(12,false)] UR ?_));refine⟨rfl,⟨rfl,_,aA,(bk h λOw KC h=>⟨bP KC,_,(bx KC).trans (az.aO Ow),(bk h λq OA h=>(yF (yo OA) ⟨.aM ⟨.i,.i,.s,.i,(.rd A),⟨⟩⟩,.aM ⟨.b,.i,.s,⟨⟩⟩,⟨⟩⟩ (by rintro _ _ ⟨C,R,rfl,rfl⟩;exact⟨rfl,(p9 R.LU ub)⟩) ?_))⟩)⟩⟩;rintro _ _ ⟨C,R,rfl,rfl⟩;refine⟨.agg [.int .i64 q.aj,.int .i64 q.ao,.str q.aq,.int .i64 q.ak,.own 8 0 0 q.ae.length],[.dead,.row 0 5 1 26 (λ_=>[.int .i64 0,.int .i64 0,.str [],.int .i64 0,.aD]),.row 0 8 e.ae.length 51 (ax w k.toNat [.bool a.ar.av,.int .i64 a.ar.ao,.str a.ar.aq,.int .i64 a.ah.aj,.int .i64 a.ah.ao,.str a.ah.aq,.int .i64 a.ah.ak,.own 6 0 0 a.ah.ae.length]),.row 0 5 1 26 (λ_=>[.int .i64 e.aj,.int .i64 e.ao,.str e.aq,.int .i64 e.ak,.own 2 0 0 e.ae.length]),.dead,.dead,.row 0 8 a.ah.ae.length 51 (ax j t.toNat [.bool c.ar.av,.int .i64 c.ar.ao,.str c.ar.aq,.int .i64 c.ah.aj,.int .i64 c.ah.ao,.str c.ah.aq,.int .i64 c.ah.ak,.own 7 0 0 c.ah.ae.length]),.row 0 8 c.ah.ae.length 51 m,.row 0 8 q.ae.length 51 C],rfl,(by simp only[SE,SS,shr,DK R];rfl),⟨rfl,⟨rfl,_,(ax j t.toNat [.bool c.ar.av,.int .i64 c.ar.ao,.str c.ar.aq,.int .i64 q.aj,.int .i64 q.ao,.str q.aq,.int .i64 q.ak,.own 8 0 0 q.ae.length]),aA,ke ⟨.same _,.same _,.same _,.same _,.same _,.same _,.same _,.same _,trivial⟩,(.d ⟨rfl,_,rfl,⟨rfl,_,λ_=>[.int .i64 e.aj,.int .i64 e.ao,.str e.aq,.int .i64 e.ak,.own 2 0 0 e.ae.length],rfl,aB rfl,?_⟩⟩)⟩⟩⟩;obtain rfl:=si h;refine⟨rfl,_,rfl,(.ab 6 t.toNat 7 8 (λP=>[.dead,.row 0 5 1 26 (λ_=>[.int .i64 e.aj,.int .i64 e.ao,.str e.aq,.int .i64 e.ak,.own 2 0 0 e.ae.length]),.row 0 8 e.ae.length 51 (ax w k.toNat [.bool a.ar.av,.int .i64 a.ar.ao,.str a.ar.aq,.int .i64 a.ah.aj,.int .i64 a.ah.ao,.str a.ah.aq,.int .i64 a.ah.ak,.own 6 0 0 a.ah.ae.length]),.row 0 5 1 26 (λ_=>[.int .i64 e.aj,.int .i64 e.ao,.str e.aq,.int .i64 e.ak,.own 2 0 0 e.ae.length]),.dead,.dead,.row 0 8 a.ah.ae.length 51 (ax j t.toNat [.bool c.ar.av,.int .i64 c.ar.ao,.str c.ar.aq,.int .i64 q.aj,.int .i64 q.ao,.str q.aq,.int .i64 q.ak,.aG 8 q.ae.length 51 C P]),.row 0 8 c.ah.ae.length 51 m,.dead]) (λP=>eV [.bool c.ar.av,.int .i64 c.ar.ao,.str c.ar.aq,.int .i64 q.aj,.int .i64 q.ao,.str q.aq,.int .i64 q.ak,.own 8 0 0 q.ae.length] [.bool c.ar.av,.int .i64 c.ar.ao,.str c.ar.aq,.int .i64 q.aj,.int .i64 q.ao,.str q.aq,.int .i64 q.ak,.aG 8 q.ae.length 51 C P] (ax j t.toNat [.bool c.ar.av,.int .i64 c.ar.ao,.str c.ar.aq,.int .i64 q.aj,.int .i64 q.ao,.str q.aq,.int .i64 q.ak,.aG 8 q.ae.length 51 C P]) (DR.lt y K) aA aA bz (R).po rfl rfl rfl rfl UO rfl) λP=>?_)⟩;have a2:DR af.D a.ah.ae.length (ax j t.toNat [.bool c.ar.av,.int .i64 c.ar.ao,.str c.ar.aq,.int .i64 q.aj,.int .i64 q.ao,.str q.aq,.int .i64 q.ak,.aG 8 q.ae.length 51 C P]) (a.ah.ae.set t.toNat (af.mk c.ar q)):=DR.set y (bJ K) (af.dz (x:=(af.mk c.ar q)) R:af.D [.bool c.ar.av,.int .i64 c.ar.ao,.str c.ar.aq,.int .i64 q.aj,.int .i64 q.ao,.str q.aq,.int .i64 q.ak,.aG 8 q.ae.length 51 C P] (af.mk c.ar q));refine .ab 2 k.toNat 7 6 (λE9=>[.dead,.row 0 5 1 26 (λ_=>[.int .i64 e.aj,.int .i64 e.ao,.str e.aq,.int .i64 e.ak,.own 2 0 0 e.ae.length]),.row 0 8 e.ae.length 51 (ax w k.toNat [.bool a.ar.av,.int .i64 a.ar.ao,.str a.ar.aq,.int .i64 a.ah.aj,.int .i64 a.ah.ao,.str a.ah.aq,.int .i64 a.ah.ak,.aG 8 a.ah.ae.length 51 (ax j t.toNat [.bool c.ar.av,.int .i64 c.ar.ao,.str c.ar.aq,.int .i64 q.aj,.int .i64 q.ao,.str q.aq,.int .i64 q.ak,.aG 8 q.ae.length 51 C P]) E9]),.row 0 5 1 26 (λ_=>[.int .i64 e.aj,.int .i64 e.ao,.str e.aq,.int .i64 e.ak,.own 2 0 0 e.ae.length]),.dead,.dead,.dead,.row 0 8 c.ah.ae.length 51 m,.dead]) (λE9=>eV [.bool a.ar.av,.int .i64 a.ar.ao,.str a.ar.aq,.int .i64 a.ah.aj,.int .i64 a.ah.ao,.str a.ah.aq,.int .i64 a.ah.ak,.own 6 0 0 a.ah.ae.length] [.bool a.ar.av,.int .i64 a.ar.ao,.str a.ar.aq,.int .i64 a.ah.aj,.int .i64 a.ah.ao,.str a.ah.aq,.int .i64 a.ah.ak,.aG 8 a.ah.ae.length 51 (ax j t.toNat [.bool c.ar.av,.int .i64 c.ar.ao,.str c.ar.aq,.int .i64 q.aj,.int .i64 q.ao,.str q.aq,.int .i64 q.ak,.aG 8 q.ae.length 51 C P]) E9] (ax w k.toNat [.bool a.ar.av,.int .i64 a.ar.ao,.str a.ar.aq,.int .i64 a.ah.aj,.int .i64 a.ah.ao,.str a.ah.aq,.int .i64 a.ah.ak,.aG 8 a.ah.ae.length 51 (ax j t.toNat [.bool c.ar.av,.int .i64 c.ar.ao,.str c.ar.aq,.int .i64 q.aj,.int .i64 q.ao,.str q.aq,.int .i64 q.ak,.aG 8 q.ae.length 51 C P]) E9]) (DR.lt B E) aA aA bz (a2).po rfl rfl rfl rfl UO rfl) λE9=>?_;have al:DR af.D e.ae.length (ax w k.toNat [.bool a.ar.av,.int .i64 a.ar.ao,.str a.ar.aq,.int .i64 a.ah.aj,.int .i64 a.ah.ao,.str a.ah.aq,.int .i64 a.ah.ak,.aG 8 a.ah.ae.length 51 (ax j t.toNat [.bool c.ar.av,.int .i64 c.ar.ao,.str c.ar.aq,.int .i64 q.aj,.int .i64 q.ao,.str q.aq,.int .i64 q.ak,.aG 8 q.ae.length 51 C P]) E9]) (e.ae.set k.toNat (af.mk a.ar (ai.mk a.ah.aj a.ah.ao a.ah.aq a.ah.ak (a.ah.ae.set t.toNat (af.mk c.ar q))))):=DR.set B (bJ E) (af.dz (x:=(af.mk a.ar (ai.mk a.ah.aj a.ah.ao a.ah.aq a.ah.ak (a.ah.ae.set t.toNat (af.mk c.ar q))))) a2:af.D [.bool a.ar.av,.int .i64 a.ar.ao,.str a.ar.aq,.int .i64 a.ah.aj,.int .i64 a.ah.ao,.str a.ah.aq,.int .i64 a.ah.ak,.aG 8 a.ah.ae.length 51 (ax j t.toNat [.bool c.ar.av,.int .i64 c.ar.ao,.str c.ar.aq,.int .i64 q.aj,.int .i64 q.ao,.str q.aq,.int .i64 q.ak,.aG 8 q.ae.length 51 C P]) E9] (af.mk a.ar (ai.mk a.ah.aj a.ah.ao a.ah.aq a.ah.ak (a.ah.ae.set t.toNat (af.mk c.ar q)))));exact en [] ⟨rfl,rfl⟩ (.aM ⟨.i,.i,.s,.i,(.rd al (by first | rfl | exact al.len | exact al.len.symm)),⟨⟩⟩) ⟨⟩;refine .ex [.dead,.row 0 5 1 26 (λ_=>[.int .i64 0,.int .i64 0,.str [],.int .i64 0,.aD]),.row 0 8 e.ae.length 51 (ax w k.toNat [.bool a.ar.av,.int .i64 a.ar.ao,.str a.ar.aq,.int .i64 a.ah.aj,.int .i64 a.ah.ao,.str a.ah.aq,.int .i64 a.ah.ak,.own 5 0 0 a.ah.ae.length]),.row 0 5 1 26 (λ_=>[.int .i64 e.aj,.int .i64 e.ao,.str e.aq,.int .i64 e.ak,.own 2 0 0 e.ae.length]),.dead,.row 0 8 a.ah.ae.length 51 j] (zq 2 7 [.bool a.ar.av,.int .i64 a.ar.ao,.str a.ar.aq,.int .i64 a.ah.aj,.int .i64 a.ah.ao,.str a.ah.aq,.int .i64 a.ah.ak,.aG 8 a.ah.ae.length 51 j mn] [.bool a.ar.av,.int .i64 a.ar.ao,.str a.ar.aq,.int .i64 a.ah.aj,.int .i64 a.ah.ao,.str a.ah.aq,.int .i64 a.ah.ak,.own 5 0 0 a.ah.ae.length] (ax w k.toNat [.bool a.ar.av,.int .i64 a.ar.ao,.str a.ar.aq,.int .i64 a.ah.aj,.int .i64 a.ah.ao,.str a.ah.aq,.int .i64 a.ah.ak,.own 5 0 0 a.ah.ae.length]) (DR.lt B E) Qb aA gI rfl rfl rfl rfl) (.d (.float [(0,true),(1,true),(2,true),(3,true),(4,true),(5,true),(6,true),(7,true),(8,true),(9,true),(10,false),(11,true),(12,false)] UR ?_));refine⟨rfl,⟨rfl,_,aA,(bk h λOx KD h=>⟨bP KD,_,(bx KD).trans (az.aO Ox),(bk h λv OB h=>(yF (yo OB) ⟨.aM ⟨.i,.i,.s,.i,(.rd y),⟨⟩⟩,.aM ⟨.b,.i,.s,⟨⟩⟩,⟨⟩⟩ (by rintro _ _ ⟨I,S,rfl,rfl⟩;exact⟨rfl,(p9 S.LU ub)⟩) ?_))⟩)⟩⟩;rintro _ _ ⟨I,S,rfl,rfl⟩;refine⟨.agg [.int .i64 v.aj,.int .i64 v.ao,.str v.aq,.int .i64 v.ak,.own 6 0 0 v.ae.length],[.dead,.row 0 5 1 26 (λ_=>[.int .i64 0,.int .i64 0,.str [],.int .i64 0,.aD]),.row 0 8 e.ae.length 51 (ax w k.toNat [.bool a.ar.av,.int .i64 a.ar.ao,.str a.ar.aq,.int .i64 a.ah.aj,.int .i64 a.ah.ao,.str a.ah.aq,.int .i64 a.ah.ak,.own 5 0 0 a.ah.ae.length]),.row 0 5 1 26 (λ_=>[.int .i64 e.aj,.int .i64 e.ao,.str e.aq,.int .i64 e.ak,.own 2 0 0 e.ae.length]),.dead,.row 0 8 a.ah.ae.length 51 j,.row 0 8 v.ae.length 51 I],rfl,(by simp only[SE,SS,shr,DK S];rfl),⟨rfl,⟨rfl,_,(ax w k.toNat [.bool a.ar.av,.int .i64 a.ar.ao,.str a.ar.aq,.int .i64 v.aj,.int .i64 v.ao,.str v.aq,.int .i64 v.ak,.own 6 0 0 v.ae.length]),aA,ke ⟨.same _,.same _,.same _,.same _,.same _,.same _,.same _,.same _,trivial⟩,(.d ⟨rfl,_,rfl,⟨rfl,_,λ_=>[.int .i64 e.aj,.int .i64 e.ao,.str e.aq,.int .i64 e.ak,.own 2 0 0 e.ae.length],rfl,aB rfl,?_⟩⟩)⟩⟩⟩;obtain rfl:=si h;refine⟨rfl,_,rfl,(.ab 2 k.toNat 7 6 (λHX=>[.dead,.row 0 5 1 26 (λ_=>[.int .i64 e.aj,.int .i64 e.ao,.str e.aq,.int .i64 e.ak,.own 2 0 0 e.ae.length]),.row 0 8 e.ae.length 51 (ax w k.toNat [.bool a.ar.av,.int .i64 a.ar.ao,.str a.ar.aq,.int .i64 v.aj,.int .i64 v.ao,.str v.aq,.int .i64 v.ak,.aG 8 v.ae.length 51 I HX]),.row 0 5 1 26 (λ_=>[.int .i64 e.aj,.int .i64 e.ao,.str e.aq,.int .i64 e.ak,.own 2 0 0 e.ae.length]),.dead,.row 0 8 a.ah.ae.length 51 j,.dead]) (λHX=>eV [.bool a.ar.av,.int .i64 a.ar.ao,.str a.ar.aq,.int .i64 v.aj,.int .i64 v.ao,.str v.aq,.int .i64 v.ak,.own 6 0 0 v.ae.length] [.bool a.ar.av,.int .i64 a.ar.ao,.str a.ar.aq,.int .i64 v.aj,.int .i64 v.ao,.str v.aq,.int .i64 v.ak,.aG 8 v.ae.length 51 I HX] (ax w k.toNat [.bool a.ar.av,.int .i64 a.ar.ao,.str a.ar.aq,.int .i64 v.aj,.int .i64 v.ao,.str v.aq,.int .i64 v.ak,.aG 8 v.ae.length 51 I HX]) (DR.lt B E) aA aA bz (S).po rfl rfl rfl rfl UO rfl) λHX=>?_)⟩;have aE:DR af.D e.ae.length (ax w k.toNat [.bool a.ar.av,.int .i64 a.ar.ao,.str a.ar.aq,.int .i64 v.aj,.int .i64 v.ao,.str v.aq,.int .i64 v.ak,.aG 8 v.ae.length 51 I HX]) (e.ae.set k.toNat (af.mk a.ar v)):=DR.set B (bJ E) (af.dz (x:=(af.mk a.ar v)) S:af.D [.bool a.ar.av,.int .i64 a.ar.ao,.str a.ar.aq,.int .i64 v.aj,.int .i64 v.ao,.str v.aq,.int .i64 v.ak,.aG 8 v.ae.length 51 I HX] (af.mk a.ar v));exact en [] ⟨rfl,rfl⟩ (.aM ⟨.i,.i,.s,.i,(.rd aE (by first | rfl | exact aE.len | exact aE.len.symm)),⟨⟩⟩) ⟨⟩;refine .d (.float [(0,true),(1,true),(2,true),(3,true),(4,true),(5,true),(6,true),(7,true),(8,true),(9,true),(10,false),(11,true),(12,false)] UR ?_);refine⟨rfl,⟨rfl,_,rfl,(bk h λOy KE h=>⟨bP KE,_,(bx KE).trans (az.aO Oy),(bk h λH KF h=>(yF (yo KF) ⟨.aM ⟨.i,.i,.s,.i,(.rd B),⟨⟩⟩,.aM ⟨.b,.i,.s,⟨⟩⟩,⟨⟩⟩ (by rintro _ _ ⟨W,J,rfl,rfl⟩;exact⟨rfl,(p9 J.LU ub)⟩) ?_))⟩)⟩⟩;rintro _ _ ⟨W,J,rfl,rfl⟩;refine⟨.agg [.int .i64 H.aj,.int .i64 H.ao,.str H.aq,.int .i64 H.ak,.own 4 0 0 H.ae.length],[.dead,.row 0 5 1 26 (λ_=>[.int .i64 0,.int .i64 0,.str [],.int .i64 0,.aD]),.row 0 8 e.ae.length 51 w,.row 0 5 1 26 (λ_=>[.int .i64 e.aj,.int .i64 e.ao,.str e.aq,.int .i64 e.ak,.own 2 0 0 e.ae.length]),.row 0 8 H.ae.length 51 W],rfl,(by simp only[SE,SS,shr,DK J];rfl),⟨rfl,⟨rfl,_,λ_=>[.int .i64 H.aj,.int .i64 H.ao,.str H.aq,.int .i64 H.ak,.own 4 0 0 H.ae.length],rfl,aB rfl,(.d ⟨rfl,_,rfl,⟨rfl,_,λ_=>[.int .i64 H.aj,.int .i64 H.ao,.str H.aq,.int .i64 H.ak,.own 4 0 0 H.ae.length],rfl,aB rfl,?_⟩⟩)⟩⟩⟩;obtain rfl:=si h;exact⟨rfl,_,rfl,(en [] ⟨rfl,rfl⟩ (.aM ⟨.i,.i,.s,.i,(.rd J),⟨⟩⟩) ⟨⟩)⟩
set_option maxRecDepth 100000
def jl (o:List UInt8):Option (Bool):=if(o.length:Int)>1048576 then some true else(dX o>>=λ(b,w,x,a)=>some (b.aj,b.ao,b.aq,b.ak,b.ae,w,x,a.aj,a.ao,a.aq,a.ak,a.ae):Option (Int×Int×cR×Int×(List af)×(List az)×Bool×Int×Int×cR×Int×(List af)))>>=λ(f,g,h,i,j,c,p,q,s,t,u,v)=>gX (ai.mk f g h i j) c p (ai.mk q s t u v)>>=λ(d,y)=>(((if y=0 then some (.inl ())else m19 d (ai.mk f g h i j)>>=λz=>some (.inr z)):Option ((Unit) ⊕ Bool))>>=λA=>match A with | .inr r=>some r | .inl _=>m22 d>>=λk=>if k then((if p then cZ (ai.mk f g h i j) c>>=λ(B,C)=>eg 32 ([]:List az) c>>=λD=>eg 32 D ([(az.mk false B.ak [])]:List az)>>=λE=>some E else some c):Option ((List az)))>>=λe=>cZ d e>>=λ(l,F)=>(dH d e>>=λm=>cZ m e>>=λ(I,G)=>some G:Option (Bool))>>=λH=>if F then m19 (ai.mk q s t u v) l>>=λn=>if n then some (H==((e.length:Int)==0))else some false else some false else some false)
theorem tT {F:List UInt8} {r:Bool} (h:jl F=some r):ACall Tryd.prog 3 [sl 1 cB F] [] (λres h=>res=.bool r/\h=[]):=by
 refine gD Tryd.func3 ?_;unfold jl at h;refine .d (.d (.d (dS (zM F) (sD h (λI h=>?_) (λI h=>?_)))));exact .d (eB h);obtain⟨J,K,L⟩:=bd h;replace h:=K;refine .cut (λσ η=>∃x,∃y,∃z,∃A,∃B,∃C,∃D,∃n,∃o,∃q,∃s,∃u,(x,y,z,A,B,C,D,n,o,q,s,u)=J/\σ=[(3,.aH 0 0 0 0),(4,sl 3 az.cells C),(5,.bool D),(6,.aH 1 0 0 0)]/\η=[.row 0 5 1 26 (λ_=>[.int .i64 x,.int .i64 y,.str z,.int .i64 A,sl 8 af.cells B]),.row 0 5 1 26 (λ_=>[.int .i64 n,.int .i64 o,.str q,.int .i64 s,sl 8 af.cells u])]) ?_ ?_;obtain⟨⟨v,De,Aj,e⟩,M,h⟩:=bd h;exact dS (oD M) ⟨rfl,_,λ_=>[.int .i64 v.aj,.int .i64 v.ao,.str v.aq,.int .i64 v.ak,sl 8 af.cells v.ae],rfl,aB rfl,⟨rfl,_,λ_=>[.int .i64 e.aj,.int .i64 e.ao,.str e.aq,.int .i64 e.ak,sl 8 af.cells e.ae],rfl,aB rfl,(ct ⟨_,_,_,_,_,_,_,_,_,_,_,_,si h,rfl,rfl⟩ (tk [0,1] ⟨.p,.l,.b,.p,⟨⟩⟩ ⟨(ed rfl),(ed rfl),⟨⟩⟩))⟩⟩;rintro _ _ ⟨x,y,z,A,B,C,D,n,o,q,s,u,rfl,rfl,rfl⟩;replace h:=L;refine .d ⟨rfl,_,rfl,⟨rfl,_,rfl,?_⟩⟩;obtain⟨⟨m,bI⟩,N,h⟩:=bd h;refine dS (tO N) ⟨rfl,_,λ_=>[.int .i64 m.aj,.int .i64 m.ao,.str m.aq,.int .i64 m.ak,sl 8 af.cells m.ae],rfl,aB rfl,?_⟩;obtain⟨O,P,H⟩:=bd h;replace h:=P;refine .cut (λσ η=>.inl ()=O/\σ=[(3,.aH 0 0 0 0),(4,sl 3 az.cells C),(5,.bool D),(6,.aH 1 0 0 0),(7,.aH 2 0 0 0)]/\η=[.row 0 5 1 26 (λ_=>[.int .i64 x,.int .i64 y,.str z,.int .i64 A,sl 8 af.cells B]),.row 0 5 1 26 (λ_=>[.int .i64 n,.int .i64 o,.str q,.int .i64 s,sl 8 af.cells u]),.row 0 5 1 26 (λ_=>m.lit)]) ?_ ?_;refine .d (sN h (λQ h=>?_) (λQ h=>?_));refine .d ⟨rfl,_,rfl,⟨rfl,_,rfl,(bk h λQe R h=>(dS (Jm R) ?_))⟩⟩;obtain rfl:=si h;exact eB H;exact ct ⟨si h,rfl,rfl⟩ (tk [0,1,2] ⟨.p,.l,.b,.p,.p,⟨⟩⟩ ⟨(ed rfl),(ed rfl),(ed rfl),⟨⟩⟩);rintro _ _ ⟨rfl,rfl,rfl⟩;refine .d (.d ⟨rfl,_,rfl,(bk H λS T h=>(dS (MI T) (mR h (λU h=>?_) (λU h=>?_))))⟩);exact .d (eB h);obtain⟨V,W,X⟩:=bd h;replace h:=W;refine .cut (λσ η=>∃E,E=V/\σ=[(4,sl 3 az.cells E),(6,.aH 0 0 0 0),(7,.aH 1 0 0 0)]/\η=[.row 0 5 1 26 (λ_=>[.int .i64 n,.int .i64 o,.str q,.int .i64 s,sl 8 af.cells u]),.row 0 5 1 26 (λ_=>m.lit)]) ?_ ?_;refine .d (sV h (λY h=>?_) (λY h=>?_));refine .d ⟨rfl,_,rfl,?_⟩;obtain⟨⟨a,Z⟩,OJ,h⟩:=bd h;refine dS (kc OJ) ⟨rfl,_,λ_=>[.int .i64 a.aj,.int .i64 a.ao,.str a.aq,.int .i64 a.ak,sl 8 af.cells a.ae],rfl,aB rfl,(.B1 [(1,true),(3,true),(4,true),(5,true)] 0 [] 2 [(6,false),(7,false),(8,true)] 6 [(2,false),(7,false),(8,true)] 6 [(0,false),(2,false),(7,false),(8,true)] UR ?_)⟩;refine⟨rfl,⟨rfl,_,rfl,⟨?_,?_⟩⟩⟩;refine⟨row az.cells ([]:List az),cA az.cells ([]:List az) rfl (cU rfl),⟨rfl,⟨rfl,⟨?_,?_⟩⟩⟩⟩;exact bk h λj g h=>(.fG ⟨rfl,dV g,j.length,row az.cells j,dw g,dE g aS pX,⟨rfl,⟨rfl,⟨row az.cells ([(az.mk false a.ak [])]:List az),cA az.cells ([(az.mk false a.ak [])]:List az) rfl (cU rfl),(bk h λk i h=>(.fG ⟨rfl,rfl,kb (l:=([(az.mk false a.ak [])]:List az)) aS,dV i,k.length,row az.cells k,dw i,dE i aS (ik aS),(ct ⟨_,si h,rfl,rfl⟩ (tk [1,2] ⟨.r,.p,.p,⟨⟩⟩ ⟨(ed rfl),(ed rfl),⟨⟩⟩))⟩))⟩⟩⟩⟩);exact⟨row az.cells ([(az.mk false a.ak [])]:List az),cA az.cells ([(az.mk false a.ak [])]:List az) rfl (cU rfl),(bk h λj g h=>(.fG ⟨rfl,dV g,j.length,row az.cells j,dw g,dE g aS pX,⟨rfl,⟨rfl,(bk h λk i h=>(.fG ⟨rfl,rfl,kb (l:=([(az.mk false a.ak [])]:List az)) aS,dV i,k.length,row az.cells k,dw i,dE i aS (ik aS),(ct ⟨_,si h,rfl,rfl⟩ (tk [1,2] ⟨.r,.p,.p,⟨⟩⟩ ⟨(ed rfl),(ed rfl),⟨⟩⟩))⟩))⟩⟩⟩))⟩;exact⟨row az.cells ([(az.mk false a.ak [])]:List az),cA az.cells ([(az.mk false a.ak [])]:List az) rfl (cU rfl),⟨row az.cells ([]:List az),cA az.cells ([]:List az) rfl (cU rfl),⟨rfl,⟨rfl,(bk h λj g h=>(.fG ⟨rfl,dV g,j.length,row az.cells j,dw g,dE g aS pX,⟨rfl,⟨rfl,(bk h λk i h=>(.fG ⟨rfl,rfl,kb (l:=([(az.mk false a.ak [])]:List az)) aS,dV i,k.length,row az.cells k,dw i,dE i aS (ik aS),(ct ⟨_,si h,rfl,rfl⟩ (tk [1,2] ⟨.r,.p,.p,⟨⟩⟩ ⟨(ed rfl),(ed rfl),⟨⟩⟩))⟩))⟩⟩⟩))⟩⟩⟩⟩;exact ct ⟨_,si h,rfl,rfl⟩ (tk [1,2] ⟨.l,.p,.p,⟨⟩⟩ ⟨(ed rfl),(ed rfl),⟨⟩⟩);rintro _ _ ⟨E,rfl,rfl,rfl⟩;replace h:=X;refine .d ⟨rfl,_,rfl,?_⟩;obtain⟨⟨c,G9⟩,OK,h⟩:=bd h;refine dS (kc OK) ⟨rfl,_,λ_=>[.int .i64 c.aj,.int .i64 c.ao,.str c.aq,.int .i64 c.ak,sl 8 af.cells c.ae],rfl,aB rfl,?_⟩;obtain⟨Rl,OL,OM⟩:=bd h;replace h:=OL;refine .cut (λσ η=>∃G,G=Rl/\σ=[(4,sl 3 az.cells E),(6,.aH 0 0 0 0),(11,.aH 1 0 0 0),(12,.bool G9),(14,.bool G)]/\η=[.row 0 5 1 26 (λ_=>[.int .i64 n,.int .i64 o,.str q,.int .i64 s,sl 8 af.cells u]),.row 0 5 1 26 (λ_=>c.lit)]) ?_ ?_;refine⟨rfl,_,rfl,(bk h λaa A3 h=>(dS (pR A3) ?_))⟩;obtain⟨⟨w,Qf⟩,ON,h⟩:=bd h;exact dS (kc ON) ⟨rfl,_,λ_=>[.int .i64 w.aj,.int .i64 w.ao,.str w.aq,.int .i64 w.ak,sl 8 af.cells w.ae],rfl,aB rfl,(ct ⟨_,si h,rfl,rfl⟩ (tk [0,2] ⟨.l,.p,.p,.b,.b,⟨⟩⟩ ⟨(ed rfl),(ed rfl),⟨⟩⟩))⟩;rintro _ _ ⟨G,rfl,rfl,rfl⟩;refine .d (sV OM (λBh h=>?_) (λBh h=>?_));refine⟨rfl,_,rfl,(.t ⟨rfl,_,rfl,(.t (bk h λad Bi h=>(dS (Jm Bi) (.t (sV h (λOO h=>?_) (λOO h=>?_))))))⟩)⟩;exact .t (.t (.t (.t (.t (eB h)))));exact .f (.f (.f (.f (.f (eB h)))));exact .f (.f (.f (.f (.f (.f (.f (.f (.f (eB h)))))))))
theorem sb {α β:Type} (a:α) (f:α->Option β):(some a>>=f)=f a:=rfl
theorem vu {s:cR} {i:Nat} (h:i<s.length):uJ s (i:Int)=some (s.getD i 0):=by
 unfold uJ;rw[An ⟨by omega,by omega⟩];rfl
theorem bH {α:Type} [Inhabited α] {l:List α} {i:Nat} (h:i<l.length):idx l (i:Int)=some l[i]:=by
 unfold idx;rw[An ⟨by omega,by omega⟩];simp [Sz,h]
theorem KH {x:Int} {n:Nat} (h:x=(n:Int)) (a:n<=9223372036854775807):bc x=(n:Int):=by
 subst h;exact yv UN UN
theorem fg {i:Nat} (h:i<9223372036854775807):bc ((i:Int)+1)=((i+1:Nat):Int):=KH UN UN
theorem fC {α:Type} {b:Nat} {l m:List α} (h:(l.length+m.length)*b<=140737488355328):eg b l m=some (l++m):=An h
theorem uc (a b c:Int):AJ a b c=some (decide (b<=a/\a<=c)):=by
 unfold AJ;by_cases h:a>=b
 ·rw[An h];congr 1;simp;omega
 ·rw[Is h];congr 1;symm;rw[decide_eq_false_iff_not];omega
theorem nK:∀(k u:Nat),u<10 ^ (k+1)->Lib.nDigits u<=k+1
 | 0,u,h=>by rw[Lib.nDigits_small U0];exact Sv _
 | k+1,u,h=>by
  by_cases h1:u<10
  ·rw[Lib.nDigits_small h1];omega
  ·rw[Lib.nDigits_big h1];have:=nK k (u / 10) (by rw[Nat.pow_succ]at h;omega);omega
theorem qH (u:Nat):Lib.decDigits u=(if u / 10=0 then[]else Lib.decDigits (u / 10))++[UInt8.ofNat (48+u % 10)]:=by
 by_cases h:u<10
 ·rw[An UN,Lib.decDigits,dif_pos h,show u % 10=u by omega];rfl
 ·rw[Is UN];conv=>lhs;rw[Lib.decDigits,dif_neg h]
theorem B2:∀(k:Nat) (out:cR) (m:Int),m.natAbs<10 ^ k-> -9223372036854775808<=m->m<=9223372036854775807->k+out.length<=1000->
  kS out m=some ((if m=0 then[]else Lib.decDigits m.natAbs)++out)
 | 0,out,m,h,_,_,_=>by
  have:m=0:=by simp at h;exact h
  subst this;rw[kS,An rfl,An rfl];rfl
 | k+1,out,m,h,h0,h1,f=>by
  rw[kS];by_cases hm:m=0
  ·rw[An hm,An hm];rfl
  rw[Is hm,Is hm];have ab:(m.tmod 10).natAbs=m.natAbs % 10:=Int.natAbs_tmod m 10;have c:(m.tdiv 10).natAbs=m.natAbs / 10:=Int.natAbs_tdiv m 10;have e:bc (m.tdiv 10)=m.tdiv 10:=by rw[bc,yv]<;>omega
  have fin:∀d:Int,d=((m.natAbs % 10:Nat):Int)->UInt8.ofNat (IntKind.u8.wrap (bc (48+d))).toNat=UInt8.ofNat (48+m.natAbs % 10):=λd hd=>by
   subst hd;rw[bc,yv UN UN,IntKind.wrap_u8];congr 1;omega
  have next:kS ([UInt8.ofNat (48+m.natAbs % 10)]++out) (bc (m.tdiv 10))=some (Lib.decDigits m.natAbs++out):=by
   rw[e,B2 k _ _ (by rw[Nat.pow_succ]at h;omega) UN UN US,qH m.natAbs,c,SY];by_cases h:m.tdiv 10=0
   ·rw[An h,An UN]
   ·rw[Is h,Is UN]
  have hs:∀b:UInt8,wJ [b] out=some ([b]++out):=λb=>An US;by_cases a:m.tmod 10<0
  ·rw[An a,hs,sb,fin _ (by rw[bc,yv]<;>omega),next]
  ·rw[Is a,hs,sb,fin _ UN,next]
theorem HY (n:Int) (h0: -9223372036854775808<=n) (h1:n<=9223372036854775807):Je n=some (Lib.itoa n):=by
 unfold Je;by_cases h:n=0
 ·subst h;rw[An rfl,show Lib.itoa 0=[48] by decide +kernel]
 rw[Is h,B2 20 [] n (by simp only[Nat.reducePow];omega) h0 h1 UQ,sb,Is h,TH];unfold Lib.itoa;have b:(Lib.decDigits n.natAbs).length<=20:=by rw[Lib.decDigits_length];exact nK 19 _ UY
 by_cases a:n<0
 ·rw[An a,An a,wJ,An US];rfl
 ·rw[Is a,Is a,show n.natAbs=n.toNat by omega]
def KI (s:List UInt8):Option Nat->Option Nat
 | some v=>if v<=1000000000000/\Lib.decDigits v=s then some v else none
 | none=>none
def dB (s:List UInt8):Option Nat:=if 1<=s.length/\s.length<=13 then KI s (Lib.decFrom 0 s)else none
theorem ud {v:Nat} {c:UInt8} {r:List UInt8} (h:48<=c.toNat/\c.toNat<=57):Lib.decFrom v (c::r)=Lib.decFrom (v*10+(c.toNat - 48)) r:=by
 show(match Lib.digitVal c with | some d=>Lib.decFrom (v*10+d) r | none=>none)=_;rw[Lib.digitVal,An h]
theorem pA {v:Nat} {c:UInt8} {r:List UInt8} (h:¬(48<=c.toNat/\c.toNat<=57)):Lib.decFrom v (c::r)=none:=by
 show(match Lib.digitVal c with | some d=>Lib.decFrom (v*10+d) r | none=>none)=_;rw[Lib.digitVal,Is h]
theorem drop_cons {s:cR} {i:Nat} (h:i<s.length):s.drop i=s.getD i 0::s.drop (i+1):=by
 rw[Ti h,Sz];simp [h]
theorem B3 (s:cR) (hs:s.length<=13):∀(n i v:Nat),i<=s.length->s.length - i=n->v<10 ^ i->
  ml s (v:Int) (i:Int)=some (match Lib.decFrom v (s.drop i)with | some u=>.inl (u:Int) | none=>.inr (0,false))
 | 0,i,v,hi,b,hv=>by
  have e:i=s.length:=by omega
  rw[ml,Is UN,e,List.drop_length];rfl
 | n+1,i,v,hi,b,hv=>by
  have a:i<s.length:=by omega
  have f:v<10000000000000:=SH hv (Nat.pow_le_pow_right UO (show i<=13 by omega));have hc:=(s.getD i 0).toNat_lt;rw[ml,An UN,vu a,sb,uc,sb,bc,yv UN UN,drop_cons a];by_cases hd:48<=(s.getD i 0).toNat/\(s.getD i 0).toNat<=57
  ·rw[An (by rw[Tc];omega),sb,ud hd];have c:IntKind.u8.wrap (((s.getD i 0).toNat:Int) - 48)=(((s.getD i 0).toNat - 48:Nat):Int):=by rw[IntKind.wrap_u8];omega
   have d:IntKind.i64.wrap (IntKind.i64.wrap (10*(v:Int))+IntKind.i64.wrap (IntKind.u8.wrap (((s.getD i 0).toNat:Int) - 48)))=((v*10+((s.getD i 0).toNat - 48):Nat):Int):=by
    rw[c,yv (x:=10*(v:Int)) UN UN,yv (x:=(((s.getD i 0).toNat - 48:Nat):Int)) UN UN,yv UN UN];omega
   rw[bc,bc,bc,d,fg UN,B3 s hs n (i+1) _ UN UN (by rw[Nat.pow_succ];omega)]
  ·rw[Is (by rw[Tc];omega),pA hd]
def OP:Option Nat->Int×Bool
 | some v=>((v:Int),true)
 | none=>(0,false)
theorem xq (s:cR):Jf s=some (OP (dB s)):=by
 unfold Jf dB;rw[uc,sb];by_cases h:1<=s.length/\s.length<=13
 ·rw[An (by rw[Tc];omega),An h];have e:=B3 s h.2 s.length 0 0 UN UN UQ;rw[List.drop_zero]at e;replace e:ml s 0 0=_:=e;rw[e,sb];cases hd:Lib.decFrom 0 s with
  | none=>rfl
  | some u=>
   show(if(u:Int)>1000000000000 then some (0,false)else _)=some (OP (if u<=1000000000000/\Lib.decDigits u=s then some u else none));by_cases h1:(u:Int)>1000000000000
   ·rw[An h1,Is UN];rfl
   ·rw[Is h1,HY _ UN UN,sb,Lib.itoa_nonneg];by_cases h2:Lib.decDigits u=s
    ·rw[An h2,An ⟨by omega,h2⟩];rfl
    ·rw[Is h2,Is (λh=>h2 h.2)];rfl
 ·rw[Is (by rw[Tc];omega),Is h];rfl
def xr:Option Nat->Option Int
 | some v=>if v<=1000000000 then some (v:Int)else none
 | none=>none
def xt:Option Nat->Option Int
 | some v=>if v<=1000000000/\v≠0 then some (-(v:Int))else none
 | none=>none
def sp (s:cR):Option Int:=if s.head? =some 45 then xt (dB s.tail)else xr (dB s)
def I0:Option Int->Int×Bool
 | some v=>(v,true)
 | none=>(0,false)
theorem HZ (s:cR):Jg s=some (I0 (sp s)):=by
 unfold Jg sp;cases s with
 | nil=>rw[Is UQ,sb,Is UO,sb,xq,sb];rfl
 | cons c r=>
  have a:uJ (c::r) 0=some c:=vu (s:=c::r) (i:=0) UQ;rw[An UQ,a,sb,sb];by_cases h:c=45
  ·subst h;rw[An UO,An (show(45::r).head? =some 45 from rfl)];have b:uK (45::r) 1=some r:=by unfold uK;rw[An ⟨by omega,by simp only[SA];omega⟩];rfl
   rw[b,sb,sb,xq,sb];show(match OP (dB r)with | (d,e)=>_)=some (I0 (xt (dB r)));cases hp:dB r with
   | none=>rfl
   | some v=>
    show(if(v:Int)>1000000000 then some (0,false)else if(UInt8.toNat 45:Int)==45 then _ else _)=some (I0 (if v<=1000000000/\v≠0 then some (-(v:Int))else none));by_cases h1:(v:Int)>1000000000
    ·rw[An h1,Is UN];rfl
    ·rw[Is h1,An UO];by_cases h2:(v:Int)=0
     ·rw[An h2,Is UN];rfl
     ·rw[Is h2,An UN];show some (IntKind.i64.wrap (0 - (v:Int)),true)=some ((-(v:Int)),true);rw[yv UN UN,Int.zero_sub]
  ·have hb:(((c.toNat:Int)==45):Bool)=false:=by
    rw[TY];intro hc;exact h (UInt8.toNat_inj.1 (show c.toNat=(45:UInt8).toNat by simp;omega))
   rw[Is (by rw[hb];decide),sb,Is U0,xq,sb,hb];cases hp:dB (c::r)with
   | none=>rfl
   | some v=>
    show(if(v:Int)>1000000000 then some (0,false)else if(false=true)then _ else _)=some (I0 (if v<=1000000000 then some (v:Int)else none));by_cases h1:(v:Int)>1000000000
    ·rw[An h1,Is UN];rfl
    ·rw[Is h1,Is UO,An UN];rfl
theorem xu {n:Int} (h0: -1000000000<=n) (h1:n<=1000000000):(Lib.itoa n).length<=11:=by
 unfold Lib.itoa;split
 ·simp only[SA];rw[Lib.decDigits_length];have:=nK 9 n.natAbs UY;omega
 ·rw[Lib.decDigits_length];have:=nK 9 n.toNat UY;omega
theorem pB {n:Int} (h0:0<=n) (h1:n<=1000000000):(Lib.decDigits n.toNat).length<=10:=by
 rw[Lib.decDigits_length];exact nK 9 n.toNat UY
def fG (s:cR) (o:Option Int):Option Int:=match o with | some n=>if Lib.itoa n=s/\(-1000000000:Int)<=n/\n<=1000000000 then some n else none | none=>none
theorem B4 (s:cR) (a:s.length<=18):pw s (-1000000000) 1000000000=fG s (Lib.atoi s):=by
 unfold pw fG;rw[Is UN,Lib.atoiAll_short s a];cases Lib.atoi s<;>rfl
theorem Ed (s:cR) (a:11<s.length):pw s (-1000000000) 1000000000=none:=by
 unfold pw;split
 ·rfl
 ·split
  ·rw[Is];intro h;have:=xu h.2.1 h.2.2;rw[h.1]at this;omega
  ·rfl
theorem xw (s:cR) (a:11<s.length):xr (dB s)=none:=by
 unfold dB;split
 ·cases Lib.decFrom 0 s with
  | none=>rfl
  | some v=>
   show xr (if v<=1000000000000/\Lib.decDigits v=s then some v else none)=none;by_cases h:v<=1000000000000/\Lib.decDigits v=s
   ·rw[An h];show(if v<=1000000000 then some (v:Int)else none)=none;rw[Is];intro hv;have:=pB (n:=(v:Int)) UN UN;rw[TP,h.2]at this;omega
   ·rw[Is h];rfl
 ·rfl
theorem vw (s:cR) (a:10<s.length):xt (dB s)=none:=by
 unfold dB;split
 ·cases Lib.decFrom 0 s with
  | none=>rfl
  | some v=>
   show xt (if v<=1000000000000/\Lib.decDigits v=s then some v else none)=none;by_cases h:v<=1000000000000/\Lib.decDigits v=s
   ·rw[An h];show(if v<=1000000000/\v≠0 then some (-(v:Int))else none)=none;rw[Is];intro hv;have:=pB (n:=(v:Int)) UN UN;rw[TP,h.2]at this;omega
   ·rw[Is h];rfl
 ·rfl
theorem Ee (c:UInt8) (r:cR) (g:(c::r).length<=11) (b:c≠45) (d:c≠43):fG (c::r) (Lib.atoi (c::r))=xr (dB (c::r)):=by
 have e:Lib.atoi (c::r)=(Lib.decFrom 0 (c::r)).map λ(m:Nat)=>(m:Int):=by
  show(if c==45 then _ else if c==43 then _ else(Lib.decNat (c::r)).map λ(m:Nat)=>(m:Int))=_;rw[Is (by simpa using b),Is (by simpa using d)];rfl
 have f:dB (c::r)=KI (c::r) (Lib.decFrom 0 (c::r)):=by unfold dB;rw[An ⟨by simp,by omega⟩]
 rw[e,f];cases hd:Lib.decFrom 0 (c::r)with
 | none=>rfl
 | some v=>
  show(if Lib.itoa (v:Int)=c::r/\(-1000000000:Int)<=v/\(v:Int)<=1000000000 then some (v:Int)else none)=xr (if v<=1000000000000/\Lib.decDigits v=c::r then some v else none);rw[Lib.itoa_nonneg];by_cases h2:Lib.decDigits v=c::r
  ·by_cases a:v<=1000000000
   ·rw[An ⟨h2,by omega,by omega⟩,An ⟨by omega,h2⟩];show _=if v<=1000000000 then some (v:Int)else none
    rw[An a]
   ·rw[Is (λh=>a (by have:=h.2.2;omega))];by_cases h4:v<=1000000000000
    ·rw[An ⟨h4,h2⟩];show _=if v<=1000000000 then some (v:Int)else none
     rw[Is a]
    ·rw[Is (λh=>h4 h.1)];rfl
  ·rw[Is (λh=>h2 h.1),Is (λh=>h2 h.2)];rfl
theorem vx (u:Nat):∀c r,Lib.decDigits u=c::r->48<=c.toNat:=by
 intro c r h;have hm:c∈Lib.decDigits u:=by rw[h];simp
 rw[Lib.decDigits_eq,SF]at hm;obtain⟨t,_,rfl⟩:=hm;unfold Lib.dg;simp;omega
theorem KK (s:cR):pw s (-1000000000) 1000000000=sp s:=by
 by_cases a:11<s.length
 ·rw[Ed s a];unfold sp;split
  ·exact(vw _ US).symm
  ·exact(xw _ a).symm
 rw[B4 s UN];cases s with
 | nil=>rfl
 | cons c r=>
  unfold sp;by_cases b:c=45
  ·subst b;show fG (45::r) (Lib.atoi (45::r))=if some (45:UInt8)=some 45 then xt (dB r)else xr (dB (45::r))
   rw[An rfl];show fG (45::r) ((Lib.decNat r).map λ(m:Nat)=> -(m:Int))=xt (dB r);simp only[SA]at a;unfold Lib.decNat dB;cases r with
   | nil=>rfl
   | cons d r=>
    rw[Is UQ,An ⟨by simp,by omega⟩];cases hd:Lib.decFrom 0 (d::r)with
    | none=>rfl
    | some v=>
     show(if Lib.itoa (-(v:Int))=45::d::r/\(-1000000000:Int)<= -(v:Int)/\ -(v:Int)<=1000000000 then some (-(v:Int))else none)=xt (if v<=1000000000000/\Lib.decDigits v=d::r then some v else none);by_cases h0:v=0
     ·subst h0;rw[Is]
      ·by_cases h4:(0<=1000000000000/\Lib.decDigits 0=d::r)
       ·rw[An h4];rfl
       ·rw[Is h4];rfl
      ·intro h;have:=h.1;rw[show Lib.itoa (-((0:Nat):Int))=[48] by decide +kernel]at this;simp at this
     ·rw[Lib.itoa_neg v UN];by_cases h2:Lib.decDigits v=d::r
      ·by_cases e:v<=1000000000
       ·rw[An ⟨by rw[h2],by omega,by omega⟩,An ⟨by omega,h2⟩];show _=if v<=1000000000/\v≠0 then some (-(v:Int))else none
        rw[An ⟨e,h0⟩]
       ·rw[Is (λh=>e (by have:=h.2.1;omega))];by_cases h4:v<=1000000000000
        ·rw[An ⟨h4,h2⟩];show _=if v<=1000000000/\v≠0 then some (-(v:Int))else none
         rw[Is (λh=>e h.1)]
        ·rw[Is (λh=>h4 h.1)];rfl
      ·rw[Is (λh=>h2 (by simpa using h.1)),Is (λh=>h2 h.2)];rfl
  ·rw[Is (by simpa using b)];by_cases f:c=43
   ·subst f
    have g:xr (dB (43::r))=none:=by
     unfold dB;split
     ·rw[pA UO];rfl
     ·rfl
    rw[g];show fG (43::r) ((Lib.decNat r).map λ(m:Nat)=>(m:Int))=none;cases Lib.decNat r with
    | none=>rfl
    | some v=>
     show(if Lib.itoa (v:Int)=43::r/\_ then some (v:Int)else none)=none;rw[Is];intro h;have h1:=h.1;rw[Lib.itoa_nonneg]at h1;exact absurd (vx v _ _ h1) UO
   ·exact Ee c r UN b f
theorem af.eta (e:af):af.mk e.ar e.ah=e:=by cases e;rfl
theorem ai.eta (v:ai):ai.mk v.aj v.ao v.aq v.ak v.ae=v:=by cases v;rfl
theorem az.eta (k:az):az.mk k.av k.ao k.aq=k:=rfl
inductive Sm:ai->Prop
 | mk {k n:Int} {s:cR} {x:Int} {l:List af} (h:l.length<=2000000) (hl:∀e∈l,Sm e.ah):Sm (.mk k n s x l)
theorem Sm.len {v:ai} (h:Sm v):v.ae.length<=2000000:=by cases h;assumption
theorem Sm.item {v:ai} (h:Sm v):∀e∈v.ae,Sm e.ah:=by cases h;assumption
theorem Sm.of {v:ai} (h:v.ae.length<=2000000) (a:∀e∈v.ae,Sm e.ah):Sm v:=by
 cases v;exact .mk h a
theorem BF {v:ai} (h:Sm v):we v=some v:=by
 induction h with
 | mk f hi c=>
  rename_i k n s x l
  have go:∀m i:Nat,i<=l.length->l.length - i=m->mj (.mk k n s x l) (l.take i) (i:Int)=some l:=by
   intro m;induction m with
   | zero=>
    intro i h1 h2;have:i=l.length:=by omega
    rw[mj,ai.bL,Is UN,this,List.take_length]
   | succ m a=>
    intro i h1 h2;have b:i<l.length:=by omega
    have d:idx l (i:Int)=some l[i]:=bH b
    rw[mj,ai.bL,An UN,d,sb,c _ (SM b),sb,
     fC (by rw[TF];simp only[SA,SK];omega),sb,af.eta,Tw b,fg UN]
    exact a (i+1) UN UN
  have e:=go l.length 0 UN UN;rw[we];replace e:mj (.mk k n s x l) [] 0=some l:=e;rw[e];rfl
theorem u5 {v:ai} (h:Sm v):m19 v v=some true:=by
 induction h with
 | mk f hi c=>
  rename_i k n s x l
  have go:∀m i:Nat,i<=l.length->l.length - i=m->mm (.mk k n s x l) (.mk k n s x l) (i:Int)=some (.inl ()):=by
   intro m;induction m with
   | zero=>
    intro i h1 h2;rw[mm,ai.bL,Is UN]
   | succ m a=>
    intro i h1 h2;have b:i<l.length:=by omega
    have d:idx l (i:Int)=some l[i]:=bH b;rw[mm,ai.bL,An UN,d,sb,sb,An rfl,sb,sb,c _ (SM b),sb,An rfl,fg UN];exact a (i+1) UN UN
  have e:=go l.length 0 UN UN;replace e:mm (.mk k n s x l) (.mk k n s x l) 0=some (.inl ()):=e;rw[m19,An rfl,An rfl,An rfl,An rfl,An rfl,e];rfl
def vk (k:az):Bool:=
 if k.av=true then(if k.ao=0 then(if(k.aq.length:Int)<=400 then !(I0 (sp k.aq)).2 else false)else false)
 else(if decide ((-1000000000:Int)<=k.ao/\k.ao<=1000000000)=true then(k.aq==([]:cR))else false)
theorem H0 (k:az):m23 k=some (vk k):=by
 unfold m23 vk;split
 ·rw[HZ,sb];show(if k.ao=0 then _ else _)=_;split
  ·split<;>rfl
  ·rfl
 ·rw[uc,sb];split<;>rfl
theorem H2 (s:cR):Jp s (-1000000000) 1000000000=some (I0 (sp s)):=by
 unfold Jp;rw[KK];cases sp s<;>rfl
theorem BH (k:az):E2 k=some (vk k):=by
 unfold E2 vk;split
 ·unfold LG;rw[H2,sb];show(if k.ao=0 then _ else _)=_;split
  ·split<;>rfl
  ·rfl
 ·split
  ·rename_i h;unfold DC;rw[h];by_cases h1:(-1000000000:Int)<=k.ao
   ·rw[An h1,sb];by_cases h2:k.ao<=1000000000
    ·rw[An US,Tg h2];rfl
    ·rw[Is US,Tf h2]
   ·rw[Is h1,sb,Is US]
  ·rename_i h;split
   ·rw[TY.2 h]
   ·rfl
theorem H3 {k:az} (h:vk k=true) (a:¬k.av=true): -1000000000<=k.ao/\k.ao<=1000000000:=by
 unfold vk at h;rw[Is a]at h;split at h
 ·rename_i h1;simpa using h1
 ·cases h
def At (l:List af) (k:az) (r:Int):Prop:=
 (r= -1/\∀e∈l,e.ar≠k)\/∃j,∃h:j<l.length,r=(j:Int)/\l[j].ar=k/\∀i,∀hi:i<j,(l[i]'UN).ar≠k
theorem At.uniq {l:List af} {k:az} {r:Int} {j:Nat} (h:At l k r) (hj:j<l.length) (he:l[j].ar=k) (hf:∀i,∀hi:i<j,(l[i]'UN).ar≠k):r=(j:Int):=by
 rcases h with⟨_,h⟩ | ⟨i,hi,e,h1,h2⟩
 ·exact absurd he (h _ (SM hj))
 ·rcases Nat.lt_trichotomy i j with a | a | a
  ·exact absurd h1 (hf i a)
  ·rw[e,a]
  ·exact absurd he (h2 j a)
theorem H4 (v:ai) (k:az) (hk:v.aj=4) (f:v.ae.length<=4000000):∀m i:Nat,i<=v.ae.length->v.ae.length - i=m->
  (∀j,∀hj:j<i,∀c:j<v.ae.length,v.ae[j].ar≠k)->∃r,lj v k (i:Int)=some r/\((r=.inl ()/\∀e∈v.ae,e.ar≠k)\/∃q,r=.inr q/\At v.ae k q):=by
 intro m;induction m with
 | zero=>
  intro i h1 h2 a;rw[lj,An hk,Is UN];refine⟨_,rfl,.inl ⟨rfl,λe he=>?_⟩⟩;obtain⟨j,hj,rfl⟩:=Tb.1 he;exact a j UN hj
 | succ m b=>
  intro i h1 h2 a;have d:i<v.ae.length:=by omega
  rw[lj,An hk,An UN,bH d,sb];by_cases he:v.ae[i].ar=k
  ·rw[An he];exact⟨_,rfl,.inr ⟨_,rfl,.inr ⟨i,d,rfl,he,λj hj=>a j hj UN⟩⟩⟩
  ·rw[Is he,fg UN];refine b (i+1) UN UN (λj hj c=>?_);rcases S5 j i with h4 | h4
   ·exact a j h4 c
   ·obtain rfl:j=i:=by omega
    exact he
theorem B5 (v:ai) (k:az) (hk:v.aj=4) (a:v.ae.length<=4000000):∃r,uC v k=some r/\At v.ae k r:=by
 obtain⟨r,e,h⟩:=H4 v k hk a v.ae.length 0 UN UN (λj hj=>absurd hj (S6 _));replace e:lj v k 0=some r:=e;unfold uC;rw[e,sb];rcases h with⟨rfl,h⟩ | ⟨q,rfl,h⟩
 ·exact⟨_,rfl,.inl ⟨rfl,h⟩⟩
 ·exact⟨_,rfl,h⟩
theorem Ef (v:ai) (k:az) (hk:¬v.aj=4):uC v k=some (-1):=by
 unfold uC;rw[lj,Is hk];rfl
theorem u0 (v:ai) (k:az) (a:v.ae.length<=4000000):∃r,uC v k=some r/\ -1<=r/\r<v.ae.length:=by
 by_cases hk:v.aj=4
 ·obtain⟨r,e,h⟩:=B5 v k hk a;refine⟨r,e,?_⟩;rcases h with⟨rfl,_⟩ | ⟨j,hj,rfl,_⟩<;>omega
 ·exact⟨_,Ef v k hk,by omega,by omega⟩
theorem H5 (v:ai) (k:az) (f:v.ae.length<=4000000):∀m i:Nat,i<=v.ae.length->v.ae.length - i=m->
  (∀j,∀hj:j<i,∀c:j<v.ae.length,v.ae[j].ar≠k)->∃r,mA v k (i:Int)=some r/\((r=.inl ()/\∀e∈v.ae,e.ar≠k)\/∃q,r=.inr q/\At v.ae k q):=by
 intro m;induction m with
 | zero=>
  intro i h1 h2 a;rw[mA,Is UN];refine⟨_,rfl,.inl ⟨rfl,λe he=>?_⟩⟩;obtain⟨j,hj,rfl⟩:=Tb.1 he;exact a j UN hj
 | succ m b=>
  intro i h1 h2 a;have d:i<v.ae.length:=by omega
  rw[mA,An UN,bH d,sb];by_cases he:v.ae[i].ar=k
  ·rw[An he];exact⟨_,rfl,.inr ⟨_,rfl,.inr ⟨i,d,rfl,he,λj hj=>a j hj UN⟩⟩⟩
  ·rw[Is he,fg UN];refine b (i+1) UN UN (λj hj c=>?_);rcases S5 j i with h4 | h4
   ·exact a j h4 c
   ·obtain rfl:j=i:=by omega
    exact he
theorem H6 (v:ai) (k:az) (hk:v.aj=4) (a:v.ae.length<=4000000):∃r,se v k=some r/\At v.ae k r:=by
 obtain⟨r,e,h⟩:=H5 v k a v.ae.length 0 UN UN (λj hj=>absurd hj (S6 _));replace e:mA v k 0=some r:=e;unfold se;rw[An hk,e,sb];rcases h with⟨rfl,h⟩ | ⟨q,rfl,h⟩
 ·exact⟨_,rfl,.inl ⟨rfl,h⟩⟩
 ·exact⟨_,rfl,h⟩
theorem qI {α:Type} (a b:α):∀l:List α,(l++[a]).set l.length b=l++[b]
 | []=>rfl
 | c::l=>by simp [qI a b l]
theorem B6 (a b:Int):IQ a b=some (if b>a then b else a):=by unfold IQ;split<;>rfl
theorem BM (a b:Int):DG a b=some (if b>a then b else a):=by unfold DG;split<;>rfl
theorem B7 {l:List af} {k:az} {i:Nat} (h:At l k (i:Int)) (hi:i<l.length):∀j,∀hj:j<i,(l[j]'UN).ar≠k:=by
 rcases h with⟨h,_⟩ | ⟨j,hj,e,h1,h2⟩
 ·omega
 ·obtain rfl:i=j:=by omega
  exact h2
mutual
def ai.wt:ai->Nat | .mk _ _ _ _ l=>1+af.nz l
def af.wt:af->Nat | .mk _ v=>v.wt
def af.nz:List af->Nat | []=>0 | x::r=>x.wt+af.nz r
end
theorem ai.dY (v:ai):v.wt=1+af.nz v.ae:=by cases v;simp [ai.wt]
theorem af.dY (e:af):e.wt=e.ah.wt:=by cases e;simp [af.wt]
theorem kn (v:ai):1<=v.wt:=by rw[v.dY];omega
theorem ki:af.nz []=0:=by simp [af.nz]
theorem dh (x:af) (r:List af):af.nz (x::r)=x.ah.wt+af.nz r:=by rw[<-x.dY];simp [af.nz]
theorem kh:∀a b:List af,af.nz (a++b)=af.nz a+af.nz b
 | [],b=>by rw[Tq,ki,Sx]
 | x::r,b=>by rw[TE,dh,dh,kh r b];omega
theorem ue:∀(l:List af) (e:af),e∈l->e.ah.wt<=af.nz l
 | x::r,e,h=>by
  rw[dh];rcases SB.1 h with rfl | h
  ·omega
  ·have:=ue r e h;omega
theorem p6:∀l:List af,l.length<=af.nz l
 | []=>by simp
 | x::r=>by rw[dh];have:=p6 r;have:=kn x.ah;simp only[SA];omega
theorem tS:∀(l:List af) (i:Nat) (e:af),af.nz (l.set i e)<=af.nz l+e.ah.wt
 | [],i,e=>by simp [ki]
 | x::r,0,e=>by rw[List.set_cons_zero,dh,dh];omega
 | x::r,i+1,e=>by rw[List.set_cons_succ,dh,dh];have:=tS r i e;omega
theorem Sm.Fq:∀(n:Nat),n<=2000000->∀v:ai,v.wt<=n->Sm v
 | 0,_,v,h=>by have:=kn v;omega
 | n+1,a,v,h=>by
  rw[v.dY]at h;refine Sm.of (by have:=p6 v.ae;omega) (λe he=>Sm.Fq n UN e.ah ?_);have:=ue _ e he;omega
theorem nu {v:ai} (h:v.wt<=2000000):Sm v:=Sm.Fq _ (Sv _) v h
theorem jw {v:ai}:v.ae.length<v.wt:=by rw[v.dY];have:=p6 v.ae;omega
theorem lH {v:ai} {e:af} (he:e∈v.ae):e.ah.wt<v.wt:=by rw[v.dY];have:=ue _ e he;omega
mutual
def ai.kw:ai->Nat | .mk k _ _ _ l=>if k=4 then 1+af.uG l else 1
def af.kw:af->Nat | .mk _ v=>v.kw
def af.uG:List af->Nat | []=>0 | x::r=>x.kw+af.uG r
end
theorem ai.qJ (v:ai):v.kw=if v.aj=4 then 1+af.uG v.ae else 1:=by cases v;unfold ai.kw;rfl
theorem af.qJ (e:af):e.kw=e.ah.kw:=by cases e;simp [af.kw]
theorem uf:af.uG []=0:=by simp [af.uG]
theorem vy (x:af) (r:List af):af.uG (x::r)=x.ah.kw+af.uG r:=by rw[<-x.qJ];simp [af.uG]
theorem B8 (n:Nat) (a:∀v:ai,v.wt<=n->v.kw<=v.wt):∀l:List af,af.nz l<=n->af.uG l<=af.nz l
 | [],_=>by rw[uf];omega
 | x::r,h=>by
  rw[dh]at h;rw[vy,dh];have:=a x.ah UN;have:=B8 n a r UN;omega
theorem yG:∀(n:Nat) (v:ai),v.wt<=n->v.kw<=v.wt
 | 0,v,h=>by have:=kn v;omega
 | n+1,v,h=>by
  have h':=h;rw[v.dY]at h';rw[v.qJ,v.dY];split
  ·have:=B8 n (yG n) v.ae UN;omega
  ·omega
theorem Fs (v:ai):v.kw<=v.wt:=yG _ v (Sv _)
theorem vz {l:List af} {i:Nat} (h:i<l.length):af.uG (l.drop i)=l[i].ah.kw+af.uG (l.drop (i+1)):=by rw[Ti h,vy]
theorem KL {x:Int} {n:Nat} (h:x=(n:Int)) (a:n<9000000000000000000):bc x=(n:Int):=by subst h;rw[bc,yv UN UN]
theorem oL:∀(n:Nat),n<=2000000->∀v:ai,v.wt<=n->eJ v=some (v.kw:Int)
 | 0,_,v,h=>by have:=kn v;omega
 | n+1,d,v,h=>by
  have hlen:=jw (v:=v);have c:=Fs v;rw[eJ,v.qJ];by_cases hk:v.aj=4
  ·rw[v.qJ,An hk]at c
   have go:∀m i:Nat,i<=v.ae.length->v.ae.length - i=m->∀y:Nat,y+af.uG (v.ae.drop i)=1+af.uG v.ae->dy v (y:Int) (i:Int)=some ((1+af.uG v.ae:Nat):Int):=by
    intro m;induction m with
    | zero=>
     intro i h1 h2 y hy;rw[dy,Is UN];rw[TA UN,uf]at hy;rw[<-hy];rfl
    | succ m a=>
     intro i h1 h2 y hy;have b:i<v.ae.length:=by omega
     rw[vz b]at hy;have f:=lH (SM b);rw[dy,An UN,bH b,sb,oL n UN _ UN,sb,fg UN,KL (n:=y+v.ae[i].ah.kw) UN UN];exact a (i+1) UN UN _ UN
   have e:=go v.ae.length 0 UN UN 1 UQ;replace e:dy v 1 0=some ((1+af.uG v.ae:Nat):Int):=e;rw[An hk,An hk,e,sb]
  ·rw[Is hk,Is hk,sb];rfl
theorem uY:∀(n:Nat),n<=2000000->∀v:ai,v.wt<=n->∀q:Int,-2000000<=q->q<=2000000->∃r:Nat,EV v q=some (r:Int)/\r<=v.kw/\((v.kw:Int)<=q->r=v.kw)/\(q<(v.kw:Int)->q<(r:Int))
 | 0,_,v,h=>by have:=kn v;omega
 | n+1,k,v,h=>by
  intro q l o;have hlen:=jw (v:=v);have p:=Fs v;by_cases hk:v.aj=4
  ·have f:v.kw=1+af.uG v.ae:=by rw[v.qJ,An hk]
   have go:∀m i:Nat,i<=v.ae.length->v.ae.length - i=m->∀y:Nat,y+af.uG (v.ae.drop i)<=v.kw->((y:Int)<=q->y+af.uG (v.ae.drop i)=v.kw)->
     ∃r:Nat,kQ v q (y:Int) (i:Int)=some (r:Int)/\r<=v.kw/\((v.kw:Int)<=q->r=v.kw)/\(q<(v.kw:Int)->q<(r:Int)):=by
    intro m;induction m with
    | zero=>
     intro i h1 h2 y hy b;rw[TA UN,uf]at hy b;rw[kQ,An hk,Is UN];exact⟨y,rfl,by omega,λh=>by omega,λh=>by omega⟩
    | succ m c=>
     intro i h1 h2 y hy b;have d:i<v.ae.length:=by omega
     have s:=lH (SM d);rw[vz d]at hy b;rw[kQ,An hk,An UN];by_cases a:(y:Int)<=q
     ·have j:bc (q - (y:Int))=q - y:=by rw[bc,yv UN UN]
      obtain⟨r,e,t,u,w⟩:=uY n UN v.ae[i].ah UN (q - y) UN UN;rw[An a,bH d,sb,j,e,sb,fg UN,KL (n:=y+r) UN UN];exact c (i+1) UN UN _ UN (λh=>by omega)
     ·rw[Is a];exact⟨y,rfl,by omega,λh=>by omega,λh=>by omega⟩
   obtain⟨r,e,g⟩:=go v.ae.length 0 UN UN 1 US (λ_=>by simp;omega);replace e:kQ v q 1 0=some (r:Int):=e;rw[EV,e,sb];exact⟨r,rfl,g⟩
  ·have f:v.kw=1:=by rw[v.qJ,Is hk]
   rw[EV,kQ,Is hk,sb];exact⟨1,rfl,by omega,λ_=>by omega,λh=>by omega⟩
mutual
def ai.jf:ai->Bool
 | .mk k n s x l=>(decide (k=3)||s==[])&&(decide (k=4)||(decide (x=0)&&l.isEmpty))&&
   (if k=0 then n==0 else if k=1 then(decide (n=0)||n==1)else if k=2 then decide (-1000000000<=n/\n<=1000000000)else if k=3 then(decide (n=0)&&decide ((s.length:Int)<=400))
    else if k=6\/k=7\/k=8 then decide (0<=n/\n<=255)else if k=4 then decide (n=0)&&decide (0<=x/\x<=1000000001)&&af.lk l x []else false)
def af.H7:af->Bool | .mk _ v=>v.jf
def af.lk:List af->Int->List az->Bool
 | [],_,_=>true
 | e::r,x,seen=>vk e.ar&&(e.ar.av||decide (e.ar.ao<x))&&!(decide (e.ar∈seen))&&e.H7&&af.lk r x (seen++[e.ar])
end
theorem Eg (e:af):e.H7=e.ah.jf:=by cases e;simp [af.H7]
theorem qK (x:Int) (s:List az):af.lk [] x s=true:=by simp [af.lk]
theorem sy (e:af) (r:List af) (x:Int) (s:List az):af.lk (e::r) x s=(vk e.ar&&(e.ar.av||decide (e.ar.ao<x))&&!(decide (e.ar∈s))&&e.ah.jf&&af.lk r x (s++[e.ar])):=by
 rw[<-Eg];simp [af.lk]
theorem qL (k n:Int) (s:cR) (x:Int) (l:List af):(ai.mk k n s x l).jf=((decide (k=3)||s==[])&&(decide (k=4)||(decide (x=0)&&l.isEmpty))&&
   (if k=0 then n==0 else if k=1 then(decide (n=0)||n==1)else if k=2 then decide (-1000000000<=n/\n<=1000000000)else if k=3 then(decide (n=0)&&decide ((s.length:Int)<=400))
    else if k=6\/k=7\/k=8 then decide (0<=n/\n<=255)else if k=4 then decide (n=0)&&decide (0<=x/\x<=1000000001)&&af.lk l x []else false)):=by simp [ai.jf]
def VL (x:Int) (l:List af):Prop:=(∀e∈l,vk e.ar=true/\(e.ar.av=true\/e.ar.ao<x)/\e.ah.jf=true)/\(l.map (·.ar)).Nodup
theorem vA:∀(l:List af) (x:Int) (s:List az),af.lk l x s=true↔VL x l/\∀e∈l,e.ar∉s
 | [],x,s=>by rw[qK];simp [VL]
 | e::r,x,s=>by
  rw[sy];simp only[so,Th,SX,Tc,decide_eq_false_iff_not,vA r x (s++[e.ar]),VL,SB,forall_eq_or_imp,SE,List.nodup_cons,Sw,Tz,SF,not_or,not_exists,not_and];constructor
  ·rintro⟨⟨⟨⟨c,d⟩,f⟩,g⟩,⟨i,j⟩,k⟩;exact⟨⟨⟨⟨c,d,g⟩,i⟩,λx hx he=>(k x hx).2.1 he,j⟩,f,λa b=>(k a b).1⟩
  ·rintro⟨⟨⟨⟨c,d,g⟩,i⟩,m,j⟩,f,n⟩;exact⟨⟨⟨⟨c,d⟩,f⟩,g⟩,⟨i,j⟩,λa b=>⟨n a b,λh=>m a b h,T7⟩⟩
theorem im {v:ai} (hk:v.aj=4):v.jf=true↔v.aq=[]/\v.ao=0/\(0<=v.ak/\v.ak<=1000000001)/\VL v.ak v.ae:=by
 cases v with
 | mk k n s x l=>
  simp only[ai.jS]at hk;subst hk;rw[qL];simp [vA];intro _;rw[and_assoc]
theorem sA {κ β:Type} [DecidableEq κ]:∀(l:List (κ×β)) (k:κ) (v:β) (c:κ),gw (il l k v) c=if c=k then some v else gw l c
 | [],k,v,c=>by
  unfold il gw;by_cases h:c=k
  ·rw[An h,An h]
  ·rw[Is h,Is h];rfl
 | (a,b)::r,k,v,c=>by
  unfold il;by_cases hk:k=a
  ·rw[An hk];subst hk;simp only[gw];by_cases h:c=k
   ·rw[An h,An h]
   ·rw[Is h,Is h];rw[Is h]
  ·rw[Is hk];simp only[gw,sA r k v c];by_cases h:c=a
   ·rw[An h,An h,Is (by rw[h];exactλhe=>hk he.symm)]
   ·rw[Is h,Is h]
theorem Eh {κ β:Type} [DecidableEq κ] (l:List (κ×β)) (k:κ) (v:β) (a:κ) (z:β):BB (il l k v) a z=if a=k then v else BB l a z:=by
 unfold BB;rw[sA];split<;>rfl
def sB (b:Bool):(Unit) ⊕ ((Unit) ⊕ Bool):=if b=true then .inl ()else .inr (.inr false)
theorem sC {l:List af} {x:Int} {i:Nat} (h:i<l.length):af.lk (l.drop i) x ((l.take i).map (·.ar))=
  (vk l[i].ar&&(l[i].ar.av||decide (l[i].ar.ao<x))&&!(decide (l[i].ar∈(l.take i).map (·.ar)))&&l[i].ah.jf&&af.lk (l.drop (i+1)) x ((l.take (i+1)).map (·.ar))):=by
 rw[Ti h,sy,<-Tw h,SU];rfl
theorem B9 {l:List af} {i:Nat} {k:az} (hi:i<=l.length):k∈(l.take i).map (·.ar)↔∃j,∃h:j<i,(l[j]'UN).ar=k:=by
 rw[SF];constructor
 ·rintro⟨e,he,rfl⟩;obtain⟨j,hj,rfl⟩:=Tb.1 he;rw[TF]at hj;exact⟨j,by omega,by rw[TO]⟩
 ·rintro⟨j,h,rfl⟩;exact⟨l[j]'UN,Tb.2 ⟨j,by rw[TF];omega,by rw[TO]⟩,rfl⟩
theorem uZ:∀(n:Nat),n<=2000000->∀v:ai,v.wt<=n->EW v=some v.jf
 | 0,_,v,h=>by have:=kn v;omega
 | n+1,C,v,h=>by
  have hlen:=jw (v:=v);cases v with
  | mk k q s x l=>
   have loop:k=4->kV (.mk k q s x l) 0=some (sB (af.lk l x [])):=λhk=>by
    have go:∀m i:Nat,i<=l.length->l.length - i=m->kV (.mk k q s x l) (i:Int)=some (sB (af.lk (l.drop i) x ((l.take i).map (·.ar)))):=by
     intro m;induction m with
     | zero=>
      intro i h1 h2;rw[kV,ai.bL,Is UN,TA UN,qK];rfl
     | succ m c=>
      intro i h1 h2;have a:i<l.length:=by omega
      have D:=lH (v:=.mk k q s x l) (e:=l[i]) (SM a);obtain⟨u,w,f⟩:=B5 (.mk k q s x l) l[i].ar hk (show l.length<=4000000 by simp only[ai.bL]at hlen;omega)
      have y:u=(i:Int)↔l[i].ar∉(l.take i).map (·.ar):=by
       rw[B9 UN];constructor
       ·rintro rfl ⟨j,hj,he⟩;exact B7 f (show i<l.length from a) j hj he
       ·intro z;exact f.uniq (show i<l.length from a) rfl (λj hj he=>z ⟨j,hj,he⟩)
      rw[kV,ai.bL,An UN,bH a,sb,H0,sb,w,sb,sb,uZ n UN _ UN,sb,sC a];have A:=c (i+1) UN UN;rw[fg (by simp only[ai.bL]at hlen;omega),A];cases E:vk l[i].ar with
      | false=>rfl
      | true=>
       simp only[Ty,TS,ai.nL,y];cases B:l[i].ah.jf with
       | false=>
        simp only[Bool.and_false,Bool.false_and,To,Tu];repeat (first | rfl | split)
       | true=>
        simp only[Ty,Bool.and_true];cases F:l[i].ar.av with
        | true=>
         simp only[Ty,Bool.true_or,TS];by_cases hm:l[i].ar∈(l.take i).map (·.ar)
         ·rw[Is (λh=>h hm),Tg hm];rfl
         ·rw[An hm,Tf hm];rfl
        | false=>
         simp only[To,Tu,Bool.false_or];by_cases hx:l[i].ar.ao<x
         ·rw[Is UN,Tg hx];by_cases hm:l[i].ar∈(l.take i).map (·.ar)
          ·rw[Is (λh=>h hm),Tg hm];rfl
          ·rw[An hm,Tf hm];rfl
         ·rw[An UN,Tf hx];rfl
    exact go l.length 0 UN UN
   rw[EW,qL];simp only[ai.jS,ai.yH,ai.yI,ai.nL,ai.bL,uc,sb];by_cases h4:k=4
   ·rw[loop h4];subst h4;by_cases hs:s=[]<;>by_cases hq:q=0<;>by_cases hx:0<=x/\x<=1000000001<;>cases af.lk l x []<;>simp [hs,hq,hx,sb,sB]
   ·by_cases b:k=3
    ·subst b;by_cases hx:x=0<;>by_cases hq:q=0<;>cases l<;>simp [hx,hq,sb]<;>try rfl
    ·by_cases hs:s=[]
     ·by_cases hx:x=0
      ·cases l with
       | cons e r=>simp [b,h4,hs,hx,sb]
       | nil=>
        by_cases h0:k=0
        ·subst h0;simp [hs,hx,sb]
        ·by_cases h1:k=1
         ·subst h1;by_cases d:q=0
          ·subst d;simp [hs,hx,sb]
          ·by_cases q1:q=1
           ·subst q1;simp [hs,hx,sb]
           ·have g:¬(0<=q/\q<=1):=by omega
            have G:decide (0<=q/\q<=1)=false:=Tf g;have H:decide (q=0)=false:=Tf d;simp [hs,hx,sb,d,q1,g];try omega
         ·by_cases h2:k=2
          ·subst h2;simp [hs,hx,sb]
          ·by_cases o:k=6
           ·subst o;simp [hs,hx,sb]
           ·by_cases p:k=7
            ·subst p;simp [hs,hx,sb]
            ·by_cases t:k=8
             ·subst t;simp [hs,hx,sb]
             ·simp [h0,h1,h2,b,h4,o,p,t,hs,hx,sb]
      ·simp [b,h4,hs,hx,sb]
     ·simp [b,h4,hs,sb]
theorem mb:∀(n:Nat),n<=2000000->∀v:ai,v.wt<=n->cJ v=some v.jf
 | 0,_,v,h=>by have:=kn v;omega
 | n+1,B,v,h=>by
  have hlen:=jw (v:=v);cases v with
  | mk k q s x l=>
   have loop:bZ (.mk k q s x l) [] 0=some (sB (af.lk l x [])):=by
    have go:∀m i:Nat,i<=l.length->l.length - i=m->∀d:List (az×Bool),(∀k,BB d k false=true↔k∈(l.take i).map (·.ar))->bZ (.mk k q s x l) d (i:Int)=some (sB (af.lk (l.drop i) x ((l.take i).map (·.ar)))):=by
     intro m;induction m with
     | zero=>
      intro i h1 h2 d j;rw[bZ,ai.bL,Is UN,TA UN,qK];rfl
     | succ m o=>
      intro i h1 h2 d j;have g:i<l.length:=by omega
      have C:=lH (v:=.mk k q s x l) (e:=l[i]) (SM g);rw[bZ,ai.bL,An UN,bH g,sb,BH,sb,mb n UN _ UN,sb,sC g]
      have y:=o (i+1) UN UN (il d l[i].ar true) (λk=>by
       rw[Eh,<-Tw g,SU,Sw,List.map_singleton,Tz,<-j k];by_cases hk:k=l[i].ar
       ·rw[An hk];simp [hk]
       ·rw[Is hk];simp [hk])
      rw[fg (by simp only[ai.bL]at hlen;omega),y];cases D:vk l[i].ar with
      | false=>rfl
      | true=>
       simp only[Ty,TS,ai.nL,j];by_cases hm:l[i].ar∈(l.take i).map (·.ar)
       ·rw[An hm,Tg hm];simp only[Bool.not_true,Bool.and_false,Bool.false_and];rfl
       ·rw[Is hm,Tf hm];cases z:l[i].ah.jf with
        | false=>
         simp only[Bool.and_false,Bool.false_and,To,Tu];repeat (first | rfl | split)
        | true=>
         simp only[Ty,Bool.and_true,Bool.not_false];cases E:l[i].ar.av with
         | true=>simp only[Ty,Bool.true_or,TS]
         | false=>
          simp only[To,Tu,Bool.false_or];by_cases hx:l[i].ar.ao<x
          ·rw[Is UN,Tg hx];rfl
          ·rw[An UN,Tf hx];rfl
    exact go l.length 0 UN UN [] (λk=>by simp [BB,gw])
   have A:∀a b c:Int,DC a b c=some (decide (b<=a/\a<=c)):=λa b c=>by
    unfold DC;by_cases h1:b<=a
    ·rw[An UN];by_cases h2:a<=c
     ·simp [h1,h2]
     ·simp [h2]
    ·rw[Is UN];simp [h1]
   rw[cJ,qL];simp only[ai.jS,ai.yH,ai.yI,ai.nL,ai.bL,A,sb];rw[loop];by_cases h4:k=4
   ·subst h4;by_cases hs:s=[]<;>by_cases hq:q=0<;>by_cases hx:0<=x/\x<=1000000001<;>cases af.lk l x []<;>simp [hs,hq,hx,sb,sB]
   ·by_cases f:k=3
    ·subst f;by_cases hx:x=0<;>by_cases hq:q=0<;>cases l<;>simp [hx,hq,sb]<;>try rfl
    ·by_cases hs:s=[]
     ·by_cases hx:x=0
      ·cases l with
       | cons e r=>simp [f,h4,hs,hx,sb]
       | nil=>
        by_cases h0:k=0
        ·subst h0;simp [hs,hx,sb]
        ·by_cases h1:k=1
         ·subst h1;by_cases p:q=0
          ·subst p;simp [hs,hx,sb]
          ·simp [hs,hx,sb,p]
         ·by_cases h2:k=2
          ·subst h2;simp [hs,hx,sb]
          ·by_cases t:k=6
           ·subst t;simp [hs,hx,sb]
           ·by_cases u:k=7
            ·subst u;simp [hs,hx,sb]
            ·by_cases w:k=8
             ·subst w;simp [hs,hx,sb]
             ·simp [h0,h1,h2,f,h4,t,u,w,hs,hx,sb]
      ·simp [f,h4,hs,hx,sb]
     ·simp [f,h4,hs,sb]
def fi (l:List af) (k:az):Option Nat:=l.findIdx? (λe=>decide (e.ar=k))
theorem ez {l:List af} {k:az} {j:Nat} (h:fi l k=some j):∃hj:j<l.length,l[j].ar=k/\∀i,∀hi:i<j,(l[i]'UN).ar≠k:=by
 obtain⟨hj,h1,h2⟩:=TR.1 h;refine⟨hj,by simpa using h1,λi hi=>?_⟩;have:=h2 i hi;simpa using this
theorem yJ {l:List af} {k:az} (h:fi l k=none):∀e∈l,e.ar≠k:=λe he=>by
 have:=List.findIdx?_eq_none_iff.1 h e he;simpa using this
theorem Ca {l:List af} {k:az} {j:Nat} (hj:j<l.length) (h1:l[j].ar=k) (h2:∀i,∀hi:i<j,(l[i]'UN).ar≠k):fi l k=some j:=
 TR.2 ⟨hj,by simpa using h1,λi hi=>by simpa using h2 i hi⟩
theorem Fh {l:List af} {k:az} (h:∀e∈l,e.ar≠k):fi l k=none:=List.findIdx?_eq_none_iff.2 (λe he=>by simpa using h e he)
def yp (o:Option Nat):Int:=match o with | some j=>(j:Int) | none=> -1
theorem qj {v:ai} {k:az} (hk:v.aj=4) (a:v.ae.length<=4000000):se v k=some (yp (fi v.ae k)):=by
 obtain⟨r,e,h⟩:=H6 v k hk a;rw[e];congr 1;rcases h with⟨rfl,h⟩ | ⟨j,hj,rfl,h1,h2⟩
 ·rw[Fh h];rfl
 ·rw[Ca hj h1 h2];rfl
theorem Hw {v:ai} {k:az} (hk:¬v.aj=4):se v k=some (-1):=by unfold se;rw[Is hk]
def iR (n:Int) (k:az):Int:=if k.av=true then n else if k.ao+1>n then k.ao+1 else n
def put (v:ai) (k:az) (x:ai):ai:=match fi v.ae k with
 | some j=>.mk v.aj v.ao v.aq v.ak (v.ae.set j (.mk k x))
 | none=>.mk v.aj v.ao v.aq (iR v.ak k) (v.ae++[.mk k x])
theorem lI {α:Type} [Inhabited α] {l:List α} {i:Nat} (h:i<l.length) (a:α):idx (l.set i a) (i:Int)=some a:=by
 rw[bH (by rw[Te];exact h),Tj]
theorem vB {α:Type} [Inhabited α] (l:List α) (a:α):idx (l++[a]) (l.length:Int)=some a:=by
 rw[bH UQ];simp
theorem Ft {k:az} (h: -1000000000<=k.ao/\k.ao<=1000000000):bc (k.ao+1)=k.ao+1:=by rw[bc,yv UN UN]
theorem KN {l:List ai} {i:Nat} (hi:i<l.length) {k:az} {x:ai} (hk:l[i].aj=4) (c:l[i].ae.length<=2000000) (b: -1000000000<=k.ao/\k.ao<=1000000000):eK l (i:Int) k x=some (l.set i (put l[i] k x)):=by
 unfold eK put;rw[bH hi,sb,qj hk UN,sb];cases h:fi l[i].ae k with
 | some j=>
  obtain⟨hj,h1,_⟩:=ez h;rw[An (show yp (some j)>=0 by show(j:Int)>=0;omega)];show(idx l[i].ae (j:Int)>>=_)=_;rw[bH hj,sb,h1];rfl
 | none=>
  rw[Is (show ¬yp none>=0 by decide),fC UX,sb,vB,sb,sb];simp only[TP,qI];by_cases a:k.av=true
  ·rw[An a,iR,An a]
  ·rw[Is a,lI hi,sb,B6,sb,Ft b,iR,Is a,Tk];rfl
theorem KO {l:List af} {i:Nat} (hi:i<l.length) {k:az} {x:ai} (hk:l[i].ah.aj=4) (c:l[i].ah.ae.length<=2000000) (b: -1000000000<=k.ao/\k.ao<=1000000000):dT l (i:Int) k x=some (l.set i (.mk l[i].ar (put l[i].ah k x))):=by
 unfold dT put;rw[bH hi,sb,qj hk UN,sb];cases h:fi l[i].ah.ae k with
 | some j=>
  obtain⟨hj,h1,_⟩:=ez h;rw[An (show yp (some j)>=0 by show(j:Int)>=0;omega)];show(idx l[i].ah.ae (j:Int)>>=_)=_;rw[bH hj,sb,h1];rfl
 | none=>
  rw[Is (show ¬yp none>=0 by decide),fC UX,sb,vB,sb,sb];simp only[TP,qI];by_cases a:k.av=true
  ·rw[An a,iR,An a]
  ·rw[Is a,lI hi,sb,B6,sb,Ft b,iR,Is a,Tk];rfl
def cy:ai:=.mk 0 0 [] 0 []
def arr (v:ai):ai:=if v.aj=0 then .mk 4 0 [] 0 []else v
def nv (v:ai) (j:Nat) (y:ai):ai:=.mk v.aj v.ao v.aq v.ak (v.ae.set j (.mk (v.ae.getD j default).ar y))
def je (v:ai) (j:Nat):ai:=(v.ae.getD j default).ah
def wp (push:Bool) (x:ai):List az->ai->Int×ai
 | [],v=>if push=true then(if(arr v).aj=4 then(if(arr v).ak>1000000000 then(7,arr v)else(0,put (arr v) (.mk false (arr v).ak []) x))else(6,arr v))else(0,x)
 | k::r,v=>if(arr v).aj=4 then(match fi (arr v).ae k with
   | some j=>((wp push x r (je (arr v) j)).1,nv (arr v) j (wp push x r (je (arr v) j)).2)
   | none=>if(wp push x r cy).1=0 then(0,put (arr v) k (wp push x r cy).2)else((wp push x r cy).1,arr v))else(6,arr v)
def Wv (v:ai):Prop:=v.jf=true/\v.wt<=1000000
theorem ny {v:ai} (h:v.jf=true) (hk:v.aj=4):∀e∈v.ae,e.ah.jf=true/\vk e.ar=true:=λe he=>by
 obtain⟨_,_,_,hv,_⟩:=(im hk).1 h;exact⟨(hv e he).2.2,(hv e he).1⟩
theorem qM:cy.jf=true:=by unfold cy;rw[qL];decide
theorem zN:(ai.mk 4 0 [] 0 []).jf=true:=by rw[im rfl];exact⟨rfl,rfl,⟨by decide,by decide⟩,by simp [VL]⟩
theorem qa {v:ai} (h:v.jf=true):(arr v).jf=true:=by unfold arr;split;exact zN;exact h
theorem xx (a b:Int) (s:cR) (n:Int):(ai.mk a b s n []).wt=1:=by rw[ai.dY];rfl
theorem xy {v:ai}:(arr v).wt<=v.wt:=by
 unfold arr;split
 ·rw[xx];exact kn v
 ·exact Sv _
theorem Wv.null:Wv cy:=⟨qM,by unfold cy;rw[xx];decide⟩
theorem Wv.arr {v:ai} (h:Wv v):Wv (arr v):=⟨qa h.1,S4 xy h.2⟩
theorem Wv.item {v:ai} (h:Wv v) (hk:v.aj=4) {j:Nat} (hj:j<v.ae.length):Wv v.ae[j].ah:=
 ⟨(ny h.1 hk _ (SM hj)).1,by have:=lH (SM hj);have:=h.2;omega⟩
theorem Wv.len {v:ai} (h:Wv v):v.ae.length<=1000000:=by have:=jw (v:=v);have:=h.2;omega
theorem mq {v:ai} {j:Nat} (hj:j<v.ae.length):je v j=v.ae[j].ah:=by unfold je;rw[Sz,As hj];rfl
theorem qb {v:ai} {j:Nat} (hj:j<v.ae.length) (y:ai):nv v j y=.mk v.aj v.ao v.aq v.ak (v.ae.set j (.mk v.ae[j].ar y)):=by unfold nv;rw[Sz,As hj];rfl
theorem Fu {k:az} (h:vk k=true): -1000000000<=k.ao/\k.ao<=1000000000:=by
 by_cases a:k.av=true
 ·unfold vk at h;rw[An a]at h;by_cases h0:k.ao=0
  ·omega
  ·rw[Is h0]at h;cases h
 ·exact H3 h a
theorem vC {α:Type} {l:List α} {i:Nat} (h:i<l.length):l.set i l[i]=l:=List.set_getElem_self h
theorem KP {l:List ai} {i:Nat} (hi:i<l.length):(some l[i]>>=λa=>(if a.aj=0 then some (l.set (i:Int).toNat (ai.mk 4 0 [] 0 ([]:List af)))else some l))=some (l.set i (arr l[i])):=by
 rw[sb];unfold arr;split
 ·rfl
 ·rw[vC hi]
theorem KQ {l:List af} {i:Nat} (hi:i<l.length):(some l[i]>>=λa=>(if a.ah.aj=0 then some (l.set (i:Int).toNat (af.mk a.ar (ai.mk 4 0 [] 0 ([]:List af))))else some l))=some (l.set i (.mk l[i].ar (arr l[i].ah))):=by
 rw[sb];unfold arr;split
 ·rfl
 ·rw[af.eta,vC hi]
theorem lJ {α:Type} (a:α) (l:List α):jj (a::l) 1=some l:=by unfold jj;rw[An ⟨by decide,by simp;omega⟩];rfl
theorem k8 {α:Type} [Inhabited α] (a:α) (l:List α):idx (a::l) 0=some a:=bH (l:=a::l) (i:=0) UQ
theorem wr (push:Bool) (x:ai):∀p:List az,(∀k∈p,vk k=true)->
  (∀(l:List ai) (i:Nat) (hi:i<l.length),Wv l[i]->bE l (i:Int) p push x=some ((wp push x p l[i]).1,l.set i (wp push x p l[i]).2))/\
  (∀(l:List af) (i:Nat) (hi:i<l.length),Wv l[i].ah->cu l (i:Int) p push x=some ((wp push x p l[i].ah).1,l.set i (.mk l[i].ar (wp push x p l[i].ah).2))):=by
 intro p;induction p with
 | nil=>
  intro _;have e:((([]:List az).length:Nat):Int)=0:=rfl;constructor
  ·intro l i hi hv;rw[bE,Is UN,bH hi,sb,An e];cases push with
   | false=>rfl
   | true=>
    rw[An rfl,sb];show((some l[i]>>=λa=>(if a.aj=0 then some (l.set (i:Int).toNat (ai.mk 4 0 [] 0 ([]:List af)))else some l))>>=_)=_;rw[KP hi,sb,lI hi,sb,wp,An rfl];have ha:=hv.arr;by_cases hk:(arr l[i]).aj=4
    ·obtain⟨_,_,s,_⟩:=(im hk).1 ha.1;rw[An hk,An hk,An e];by_cases b:(arr l[i]).ak>1000000000
     ·rw[An b,An b]
     ·have c:i<(l.set i (arr l[i])).length:=by rw[Te];exact hi
      have he:(l.set i (arr l[i]))[i]=arr l[i]:=Tj _;have hp:=KN c (k:=.mk false (arr l[i]).ak []) (x:=x) Ve (by rw[he];have:=ha.len;omega) ⟨by show _<=(arr l[i]).ak;omega,by show(arr l[i]).ak<=_;omega⟩;rw[Is b,Is b,hp,sb,he,Tk]
    ·rw[Is hk,Is hk]
  ·intro l i hi hv;rw[cu,Is UN,bH hi,sb,An e];cases push with
   | false=>rfl
   | true=>
    rw[An rfl,sb];show((some l[i]>>=λa=>(if a.ah.aj=0 then some (l.set (i:Int).toNat (af.mk a.ar (ai.mk 4 0 [] 0 ([]:List af))))else some l))>>=_)=_;rw[KQ hi,sb,lI hi,sb,wp,An rfl];have ha:=hv.arr;by_cases hk:(arr l[i].ah).aj=4
    ·obtain⟨_,_,s,_⟩:=(im hk).1 ha.1;rw[An hk,An e];show(if(arr l[i].ah).aj=4 then _ else _)=_;rw[An hk];by_cases b:(arr l[i].ah).ak>1000000000
     ·rw[An b];show(if(arr l[i].ah).ak>1000000000 then _ else _)=_;rw[An b]
     ·have c:i<(l.set i (.mk l[i].ar (arr l[i].ah))).length:=by rw[Te];exact hi
      have he:(l.set i (.mk l[i].ar (arr l[i].ah)))[i]=.mk l[i].ar (arr l[i].ah):=Tj _;have hp:=KO c (k:=.mk false (arr l[i].ah).ak []) (x:=x) Ve U8 ⟨by show _<=(arr l[i].ah).ak;omega,by show(arr l[i].ah).ak<=_;omega⟩;rw[Is b];show(if(arr l[i].ah).ak>1000000000 then _ else(dT _ (i:Int) (.mk false (arr l[i].ah).ak []) x>>=_))=_;rw[Is b,hp,sb,he,Tk];rfl
    ·rw[Is hk];show(if(arr l[i].ah).aj=4 then _ else _)=_;rw[Is hk]
 | cons k r t=>
  intro g;obtain⟨m,n⟩:=t (λq hq=>g q (SG _ hq));have o:=Fu (g k (List.mem_cons_self ..));have f:¬(((k::r).length:Nat):Int)=0:=by simp only[SA];omega
  constructor
  ·intro l i hi hv;rw[bE,Is UN,bH hi,sb,Is f,sb];show((some l[i]>>=λa=>(if a.aj=0 then some (l.set (i:Int).toNat (ai.mk 4 0 [] 0 ([]:List af)))else some l))>>=_)=_;rw[KP hi,sb,lI hi,sb,wp];have ha:=hv.arr;by_cases hk:(arr l[i]).aj=4
   ·rw[An hk,An hk,Is f,k8,sb,qj hk (by have:=ha.len;omega),sb];cases h:fi (arr l[i]).ae k with
    | some j=>
     obtain⟨hj,h1,_⟩:=ez h;rw[An (show yp (some j)>=0 by show(j:Int)>=0;omega)];show(idx (arr l[i]).ae (j:Int)>>=_)=_;rw[bH hj,sb,lJ,sb];show(cu (arr l[i]).ae (j:Int) r push x>>=_)=_;rw[n (arr l[i]).ae j hj (ha.item hk hj),sb];show some (_,(l.set i (arr l[i])).set i _)=_;rw[Tk];simp only[mq hj,qb hj]
    | none=>
     rw[Is (show ¬yp none>=0 by decide),lJ,sb];have d:=m [cy] 0 UQ Wv.null;replace d:bE [ai.mk 0 0 [] 0 ([]:List af)] 0 r push x=some ((wp push x r cy).1,[(wp push x r cy).2]):=d;rw[d,sb];show(idx [(wp push x r cy).2] 0>>=_)=_;rw[k8,sb];show(if(wp push x r cy).1=0 then _ else _)=some ((if _ then _ else _:Int×ai).1,_);have c:i<((l.set i (arr l[i])).set i (arr l[i])).length:=by simp only[Te];exact hi
     have he:((l.set i (arr l[i])).set i (arr l[i]))[i]=arr l[i]:=Tj _;have hp:=KN c (k:=k) (x:=(wp push x r cy).2) Ve (by rw[he];have:=ha.len;omega) o;by_cases h0:(wp push x r cy).1=0
     ·rw[An h0];show(eK ((l.set i (arr l[i])).set i (arr l[i])) (i:Int) k (wp push x r cy).2>>=_)=_;rw[hp,sb,he,Tk,Tk];simp only[h0,Ty]
     ·rw[Is h0];show some (_,(l.set i (arr l[i])).set i (arr l[i]))=_;rw[Tk];simp only[h0,Tu]
   ·rw[Is hk,Is hk]
  ·intro l i hi hv;rw[cu,Is UN,bH hi,sb,Is f,sb];show((some l[i]>>=λa=>(if a.ah.aj=0 then some (l.set (i:Int).toNat (af.mk a.ar (ai.mk 4 0 [] 0 ([]:List af))))else some l))>>=_)=_;rw[KQ hi,sb,lI hi,sb,wp];have ha:=hv.arr;show(if(arr l[i].ah).aj=4 then _ else _)=_;by_cases hk:(arr l[i].ah).aj=4
   ·rw[An hk,An hk,Is f,k8,sb];show(se (arr l[i].ah) k>>=_)=_;rw[qj hk (by have:=ha.len;omega),sb];cases h:fi (arr l[i].ah).ae k with
    | some j=>
     obtain⟨hj,h1,_⟩:=ez h;rw[An (show yp (some j)>=0 by show(j:Int)>=0;omega)];show(idx (arr l[i].ah).ae (j:Int)>>=_)=_;rw[bH hj,sb,lJ,sb];show(cu (arr l[i].ah).ae (j:Int) r push x>>=_)=_;rw[n (arr l[i].ah).ae j hj (ha.item hk hj),sb];show some (_,(l.set i (af.mk l[i].ar (arr l[i].ah))).set i _)=_;rw[Tk];simp only[mq hj,qb hj];rfl
    | none=>
     rw[Is (show ¬yp none>=0 by decide),lJ,sb];have d:=m [cy] 0 UQ Wv.null;replace d:bE [ai.mk 0 0 [] 0 ([]:List af)] 0 r push x=some ((wp push x r cy).1,[(wp push x r cy).2]):=d;rw[d,sb];show(idx [(wp push x r cy).2] 0>>=_)=_;rw[k8,sb];show(if(wp push x r cy).1=0 then _ else _)=some ((if _ then _ else _:Int×ai).1,_);have c:i<((l.set i (af.mk l[i].ar (arr l[i].ah))).set i (af.mk l[i].ar (arr l[i].ah))).length:=by simp only[Te];exact hi
     have he:((l.set i (af.mk l[i].ar (arr l[i].ah))).set i (af.mk l[i].ar (arr l[i].ah)))[i]=af.mk l[i].ar (arr l[i].ah):=Tj _;have hp:=KO c (k:=k) (x:=(wp push x r cy).2) Ve U8 o;by_cases h0:(wp push x r cy).1=0
     ·rw[An h0];show(dT ((l.set i (af.mk l[i].ar (arr l[i].ah))).set i (af.mk l[i].ar (arr l[i].ah))) (i:Int) k (wp push x r cy).2>>=_)=_;rw[hp,sb,he,Tk,Tk];simp only[h0,Ty];rfl
     ·rw[Is h0];show some (_,(l.set i (af.mk l[i].ar (arr l[i].ah))).set i (af.mk l[i].ar (arr l[i].ah)))=_;rw[Tk];simp only[h0,Tu]
   ·rw[Is hk,Is hk]
def gt:List az->ai->Option ai
 | [],v=>some v
 | k::r,v=>if v.aj=4 then(match fi v.ae k with
   | some j=>gt r (je v j)
   | none=>none)else none
def nx (p:List az) (v:ai):Int:=match gt p v with
 | some o=>o.ak
 | none=>0
theorem Cb (a b:Int) (s:cR) (n:Int) (l:List af) (j:Nat) (k:az) (y:ai):(ai.mk a b s n (l.set j (.mk k y))).wt<=1+af.nz l+y.wt:=by
 have h:(ai.mk a b s n (l.set j (.mk k y))).wt=1+af.nz (l.set j (.mk k y)):=ai.dY _;have h2:=tS l j (.mk k y);have e:(af.mk k y).ah.wt=y.wt:=rfl;omega
theorem Cc (v:ai) (k:az) (y:ai):(put v k y).wt<=v.wt+y.wt:=by
 unfold put;cases fi v.ae k with
 | some j=>have h1:=Cb v.aj v.ao v.aq v.ak v.ae j k y;have h2:=v.dY;show(ai.mk v.aj v.ao v.aq v.ak (v.ae.set j (.mk k y))).wt<=_;omega
 | none=>
  show(ai.mk v.aj v.ao v.aq (iR v.ak k) (v.ae++[.mk k y])).wt<=_;have h:(ai.mk v.aj v.ao v.aq (iR v.ak k) (v.ae++[.mk k y])).wt=1+af.nz (v.ae++[.mk k y]):=ai.dY _;rw[h,kh,dh,ki,v.dY];have e:(af.mk k y).ah.wt=y.wt:=rfl;omega
theorem yt (v:ai) (j:Nat) (y:ai):(nv v j y).wt<=v.wt+y.wt:=by
 have:=Cb v.aj v.ao v.aq v.ak v.ae j (v.ae.getD j default).ar y;have:=v.dY;unfold nv;omega
theorem qk (v:ai) {j:Nat} (hj:j<v.ae.length):(je v j).wt<v.wt:=by rw[mq hj];exact lH (SM hj)
theorem yu (push:Bool) (x:ai) (N:Nat):∀(p:List az) (v:ai),v.wt<=N->x.wt<=N->(wp push x p v).2.wt<=(p.length+2)*N
 | [],v,hv,hx=>by
  have ha:=xy (v:=v);rw[wp];show _<=(0+2)*N;split
  ·split
   ·split
    ·show(arr v).wt<=_;omega
    ·have:=Cc (arr v) (.mk false (arr v).ak []) x;show(put (arr v) (.mk false (arr v).ak []) x).wt<=_;omega
   ·show(arr v).wt<=_;omega
  ·show x.wt<=_;omega
 | k::r,v,hv,hx=>by
  have ha:=xy (v:=v);have hm:((k::r).length+2)*N=(r.length+2)*N+N:=by simp only[SA];rw[<-Nat.succ_mul]
  rw[hm,wp];have h1:1<=N:=S4 (kn v) hv;split
  ·rename_i hk;split
   ·rename_i j hj;obtain⟨hj,_⟩:=ez hj;have hi:=qk (arr v) hj;have h2:=yu push x N r (je (arr v) j) UN hx;have a:=yt (arr v) j (wp push x r (je (arr v) j)).2;show(nv (arr v) j (wp push x r (je (arr v) j)).2).wt<=_;omega
   ·have h2:=yu push x N r cy (by unfold cy;rw[xx];exact h1) hx;split
    ·have:=Cc (arr v) k (wp push x r cy).2;show(put (arr v) k (wp push x r cy).2).wt<=_;omega
    ·show(arr v).wt<=_;omega
  ·show(arr v).wt<=_;omega
theorem Cd {l:List af} {j:Nat} (hj:j<l.length) (k:az) (y:ai) (hk:l[j].ar=k):(l.set j (.mk k y)).map (·.ar)=l.map (·.ar):=by
 rw[List.map_set];have:(af.mk k y).ar=(l.map (·.ar))[j]'UW:=by rw[TD,hk,af.yK]
 rw[this,List.set_getElem_self]
theorem Ce {n:Int} {l:List af} (h:VL n l) {j:Nat} (hj:j<l.length) {k:az} {y:ai} (hk:l[j].ar=k) (hy:y.jf=true):VL n (l.set j (.mk k y)):=by
 refine⟨λe he=>?_,by rw[Cd hj k y hk];exact h.2⟩;rcases List.mem_or_eq_of_mem_set he with he | rfl
 ·exact h.1 e he
 ·obtain⟨a,b,_⟩:=h.1 _ (SM hj);rw[hk]at a b;exact⟨a,b,hy⟩
theorem xz {v:ai} (hk:v.aj=4) (h1:v.aq=[]) (h2:v.ao=0) {n:Int} {l:List af} (a:0<=n/\n<=1000000001) (b:VL n l):(ai.mk v.aj v.ao v.aq n l).jf=true:=(im (v:=.mk v.aj v.ao v.aq n l) hk).2 ⟨h1,h2,a,b⟩
theorem yL {v:ai} (hv:v.jf=true) (hk:v.aj=4) {k:az} (f:vk k=true) {y:ai} (hy:y.jf=true):(put v k y).jf=true:=by
 obtain⟨h1,h2,d,h4⟩:=(im hk).1 hv;unfold put;cases h:fi v.ae k with
 | some j=>
  obtain⟨hj,e,_⟩:=ez h;exact xz hk h1 h2 d (Ce h4 hj e hy)
 | none=>
  have i:=yJ h;have hb:=Fu f;have l:v.ak<=iR v.ak k:=by unfold iR;split;exact Int.le_refl _;split<;>omega
  have hle:iR v.ak k<=1000000001:=by unfold iR;split;exact d.2;split<;>omega
  refine xz hk h1 h2 ⟨Int.le_trans d.1 l,hle⟩ ⟨λe he=>?_,?_⟩
  ·rcases Sw.1 he with he | he
   ·obtain⟨a,b,c⟩:=h4.1 e he;exact⟨a,b.imp id (λb=>by show e.ar.ao<iR v.ak k;omega),c⟩
   ·obtain rfl:=Tz.1 he;refine⟨f,?_,hy⟩;by_cases g:k.av=true
    ·exact .inl g
    ·refine .inr ?_;show k.ao<iR v.ak k;unfold iR;rw[Is g];split<;>omega
  ·show((v.ae++[af.mk k y]).map (·.ar)).Nodup;rw[SU,List.nodup_append];refine⟨h4.2,by simp,λa ha b hb=>?_⟩;obtain⟨e,he,rfl⟩:=SF.1 ha;simp at hb;subst hb;exact i e he
theorem Cf {v:ai} (hv:v.jf=true) (hk:v.aj=4) {j:Nat} (hj:j<v.ae.length) {y:ai} (hy:y.jf=true):(nv v j y).jf=true:=by
 obtain⟨h1,h2,a,h4⟩:=(im hk).1 hv;rw[qb hj];exact xz hk h1 h2 a (Ce h4 hj rfl hy)
theorem Ei {n:Int} (h0:0<=n) (h1:n<=1000000000):vk (.mk false n [])=true:=by
 unfold vk;rw[Is (show ¬(false=true) by decide),An US];rfl
theorem xe (push:Bool) (x:ai) (hx:x.jf=true):∀(p:List az) (v:ai),(∀k∈p,vk k=true)->v.jf=true->(wp push x p v).2.jf=true
 | [],v,hp,hv=>by
  have ha:=qa hv;rw[wp];split
  ·split
   ·rename_i hk;split
    ·exact ha
    ·obtain⟨_,_,b,_⟩:=(im hk).1 ha;exact yL ha hk (Ei b.1 UN) hx
   ·exact ha
  ·exact hx
 | k::r,v,hp,hv=>by
  have ha:=qa hv;have a:∀k∈r,vk k=true:=λq hq=>hp q (SG _ hq);rw[wp];split
  ·rename_i hk;split
   ·rename_i j hj;obtain⟨hj,_⟩:=ez hj;exact Cf ha hk hj (xe push x hx r _ a (by rw[mq hj];exact(ny ha hk _ (SM hj)).1))
   ·split
    ·exact yL ha hk (hp k (List.mem_cons_self ..)) (xe push x hx r _ a qM)
    ·exact ha
  ·exact ha
theorem Cg (a b:Int) (c:cR) (n:Int) {l:List af} {j:Nat} (hj:j<l.length):je (.mk a b c n l) j=l[j].ah:=mq (v:=.mk a b c n l) hj
theorem Ch {l:List af} {k:az} {j:Nat} (h:fi l k=some j) {q:az} (hq:q=k) (y:ai):fi (l.set j (.mk q y)) k=some j:=by
 obtain⟨hj,e,h2⟩:=ez h;refine Ca (by rw[Te];exact hj) (by rw[Tj,af.yK,hq]) (λi hi=>?_);rw[List.getElem_set_ne UN];exact h2 i hi
theorem yM (a b:Int) (c:cR) (n:Int) {l:List af} {j:Nat} (hj:j<l.length) (q:az) (y:ai):je (.mk a b c n (l.set j (.mk q y))) j=y:=by
 rw[Cg _ _ _ _ (by rw[Te];exact hj),Tj,af.Ej]
theorem H8 {l:List af} {k:az} (h:fi l k=none) (y:ai):fi (l++[.mk k y]) k=some l.length:=
 Ca UQ UQ (λi hi=>by rw[Tv hi];exact yJ h _ (SM hi))
theorem Ek (a b:Int) (c:cR) (n:Int) (l:List af) (k:az) (y:ai):je (.mk a b c n (l++[.mk k y])) l.length=y:=by
 rw[Cg _ _ _ _ UQ];simp
theorem Ci {k:az} (r:List az) {a:Int} (ha:a=4) (b:Int) (c:cR) (n:Int) {l:List af} {j:Nat} (h:fi l k=some j):gt (k::r) (.mk a b c n l)=gt r (je (.mk a b c n l) j):=by
 rw[gt,ai.jS,An ha,ai.bL,h]
theorem Cj {v:ai} {k:az} {j:Nat} (h:fi v.ae k=some j) (x:ai):put v k x=.mk v.aj v.ao v.aq v.ak (v.ae.set j (.mk k x)):=by unfold put;rw[h]
theorem Ck {v:ai} {k:az} (h:fi v.ae k=none) (x:ai):put v k x=.mk v.aj v.ao v.aq (iR v.ak k) (v.ae++[.mk k x]):=by unfold put;rw[h]
theorem yN {v:ai} (hk:v.aj=4) (k:az) (y:ai) (r:List az):gt (k::r) (put v k y)=gt r y:=by
 cases h:fi v.ae k with
 | some j=>
  obtain⟨hj,_⟩:=ez h;rw[Cj h,Ci r hk _ _ _ (Ch h rfl y),yM _ _ _ _ hj]
 | none=>rw[Ck h,Ci r hk _ _ _ (H8 h y),Ek]
theorem uX {v:ai} (hk:v.aj=4) {k:az} {j:Nat} (h:fi v.ae k=some j) (y:ai) (r:List az):gt (k::r) (nv v j y)=gt r y:=by
 obtain⟨hj,e,_⟩:=ez h;rw[qb hj,Ci r hk _ _ _ (Ch h e y),yM _ _ _ _ hj]
theorem OT {v:ai} {k:az} {j:Nat} (h:fi (arr v).ae k=some j):arr v=v:=by
 unfold arr at h ⊢;split
 ·rename_i h0;rw[An h0]at h;cases h
 ·rfl
theorem El (r:List az):nx r cy=0:=by
 cases r with
 | nil=>rfl
 | cons k r=>unfold nx gt;rw[Is (show ¬cy.aj=4 by decide)]
theorem Cl {v:ai} (hv:v.jf=true):(arr v).ak=v.ak:=by
 unfold arr;split
 ·rename_i h0;cases v with
  | mk k n s x l=>
   rw[qL]at hv;simp only[ai.jS]at h0;subst h0;simp at hv;simp [hv.1.2.1]
 ·rfl
def xd (push:Bool) (p:List az) (v:ai):List az:=if push=true then p++[.mk false (nx p v) []]else p
theorem xf (push:Bool) (x:ai):∀(p:List az) (v:ai),v.jf=true->(wp push x p v).1=0->gt (xd push p v) (wp push x p v).2=some x
 | [],v,hv,h=>by
  rw[wp]at h ⊢;cases push with
  | false=>rfl
  | true=>
   rw[An rfl]at h ⊢;by_cases hk:(arr v).aj=4
   ·rw[An hk]at h ⊢;by_cases b:(arr v).ak>1000000000
    ·rw[An b]at h;cases h
    ·rw[Is b];show gt [.mk false v.ak []] (put (arr v) (.mk false (arr v).ak []) x)=_;rw[<-Cl hv,yN hk];rfl
   ·rw[Is hk]at h;cases h
 | k::r,v,hv,h=>by
  have ha:=qa hv;rw[wp]at h ⊢;by_cases hk:(arr v).aj=4
  ·rw[An hk]at h ⊢;cases hf:fi (arr v).ae k with
   | some j=>
    rw[hf]at h;simp only at h ⊢;obtain⟨hj,_⟩:=ez hf;have e:=OT hf;have hi:(je (arr v) j).jf=true:=by rw[mq hj];exact(ny ha hk _ (SM hj)).1
    have a:=xf push x r (je (arr v) j) hi h
    have hp:xd push (k::r) v=k::xd push r (je (arr v) j):=by
     unfold xd;split
     ·have:nx (k::r) v=nx r (je (arr v) j):=by
       unfold nx;have h4:v.aj=4:=by rw[<-e];exact hk
       have c:fi v.ae k=some j:=by rw[<-e];exact hf
       rw[gt,An h4,c,e]
      rw[this];rfl
     ·rfl
    rw[hp,uX hk hf];exact a
   | none=>
    rw[hf]at h;simp only at h ⊢;by_cases h0:(wp push x r cy).1=0
    ·rw[An h0];have a:=xf push x r cy qM h0
     have hp:xd push (k::r) v=k::xd push r cy:=by
      unfold xd;split
      ·have:nx (k::r) v=nx r cy:=by
        rw[El];unfold nx;rw[gt];by_cases h4:v.aj=4
        ·have e:arr v=v:=by unfold arr;rw[Is UN]
         rw[e]at hf;rw[An h4,hf]
        ·rw[Is h4]
       rw[this];rfl
      ·rfl
     rw[hp];show gt (k::xd push r cy) (put (arr v) k (wp push x r cy).2)=_;rw[yN hk];exact a
    ·rw[Is h0]at h;exact absurd h h0
  ·rw[Is hk]at h;cases h
end Go.Am
