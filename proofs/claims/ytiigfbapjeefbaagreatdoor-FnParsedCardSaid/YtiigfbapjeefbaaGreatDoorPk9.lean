/- Texts of the proof, joined and shortened. -/
import Derived.Test.YtiigfbapjeefbaaGreatDoorPk8
import Derived.Lib.AtoiTie
import Derived.Lib.IndexMore
set_option linter.unusedVariables false
set_option linter.unusedSimpArgs false
set_option maxRecDepth 100000
set_option synthInstance.maxHeartbeats 400000
set_option synthInstance.maxSize 4000
set_option maxHeartbeats 8000000
namespace Go.Am
open Go Go.RowKit Go.Proofs
def qG (a0:List UInt8):Option (Bool):=if(a0.length:Int)>1048576 then some true else iu a0>>=λf=>(fg f>>=λ(e,q,s)=>some (e.ah,e.aE,e.al,e.af,q,s):Option (Int×Int×av×(List ae)×Int×Int))>>=λ(t,y5,u,g,h,b)=>(((if h=0 then kN (ae.mk t y5 u g)>>=λv=>if v then if b=0 then if h=0 then some (.inl ())else if(g.length:Int)>0 then some (.inr false)else if b<0 then some (.inr false)else if b>(f.length:Int)then some (.inr false)else some (.inl ())else some (.inr false)else some (.inr false)else if h=0 then some (.inl ())else if(g.length:Int)>0 then some (.inr false)else if b<0 then some (.inr false)else if b>(f.length:Int)then some (.inr false)else some (.inl ())):Option ((Unit) ⊕ Bool))>>=λi=>match i with | .inr r=>some r | .inl _=>jA a0>>=λa=>jM a>>=λ(c,d)=>((((if d=0 then if(a.length:Int)>1000 then some true else kK c>>=λj=>if j>100 then some true else iC c>>=λw=>some (decide (w>20))else some true):Option (Bool))>>=λk=>(if k then if d=0 then some (.inr true)else some (.inr ((c.af.length:Int)==0))else some (.inl ())):Option ((Unit) ⊕ Bool))>>=λl=>match l with | .inr r=>some r | .inl _=>bx [60,63,32,40] a>>=λm=>bx m [10,41,59]>>=λn=>fg n>>=λ(o,x,y)=>idx o.af 0>>=λp=>idx p.af 0>>=λz=>ng c>>=λA=>if A then if x=0 then if(o.af.length:Int)=1 then if p.ah=33 then kL z c>>=λB=>some B else some false else some false else some false else some false))
theorem Gk {a0:List UInt8} {r:Bool} (h:qG a0=some r):ACall Tryz.prog 8 [sl 1 cB a0] [] (λres h=>res=.bool r/\h=[]):=by
 refine eV Tryz.func8 ?_;unfold qG at h;refine .d (.d (.d (bO (TW a0) (sD h (λoz h=>?_) (λoz h=>?_)))));exact aUh;refine .d (bk h λv2 vL h=>(bO (wP vL) ?_));obtain⟨G,h,oy⟩:=bd h;refine .cut (λσ η=>∃H,∃y5,∃I,∃w,∃J,∃K,∃L:Nat->List PV,DR ae.D w.length L w/\(H,y5,I,w,J,K)=G/\σ=[(0,sl 1 cB a0),(3,.str v2),(4,.aI 0 0 0 0),(5,.int .i64 J),(6,.int .i64 K)]/\η=[.row 0 4 1 29 (λ_=>[.int .i64 H,.int .i64 y5,.str I,.own 1 0 0 w.length]),.row 0 4 w.length 29 L]) ?_ ?_;obtain⟨⟨x,qa,wq⟩,Oi,h⟩:=bd h;refine aqk (tP Oi) ?_;rintro _ _ ⟨y,z,rfl,rfl⟩;exact⟨.gJ [.agg [.int .i64 x.ah,.int .i64 x.aE,.str x.al,.own 0 0 0 x.af.length],.int .i64 qa,.int .i64 wq],[.row 0 4 x.af.length 29 y],rfl,(by simp only[aRD,aRX,shr,shd z];rfl),rfl,_,_,rfl,au,(ct ⟨_,_,_,_,_,_,y,z,si h,rfl,rfl⟩ (tk [1,0] ⟨.l,.s,.p,.i,.i,⟨⟩⟩ ⟨(nb rfl ⟨.i,.i,.s,.oe,⟨⟩⟩),Gj,⟨⟩⟩))⟩;rintro _ _ ⟨H,y5,I,w,J,K,L,d9,rfl,rfl,rfl⟩;obtain⟨M,h,ym⟩:=bd oy;refine .cut (λσ η=>.inl ()=M/\σ=[(0,sl 1 cB a0)]/\η=[]) ?_ ?_;refine .d (sE h (λyR h=>?_) (λyR h=>?_));refine⟨rfl,_,rfl,(.t (bk h λIF N h=>(Vr (yG N) ⟨.cr ⟨.i,.i,.s,(.rd d9),⟨⟩⟩,⟨⟩⟩ (.t (.t (jR h (λIl h=>?_) (λIl h=>?_)))))))⟩;refine .t (.t (.t (.t (.t (.t (.t (.t (.t (.t (.d ?_))))))))));exact aTB;refine .f (.t (.f (.t (sN h (λDz h=>?_) (λDz h=>?_)))));refine .t (.t (.t (.t (.t (.d ?_)))));exact aTB;refine .f (.f (sN h (λyQ h=>?_) (λyQ h=>?_)));refine⟨rfl,(.t ⟨rfl,_,rfl,(.t ⟨rfl,(.t (.t (sD h (λQg h=>?_) (λQg h=>?_))))⟩)⟩)⟩;refine .t (.t (.t (.t (.t (.t (.t (.t (.t (.t (.f (.t (.f (.t (.d ?_))))))))))))));exact aTB;refine .f (.t (.f (.t (sD h (λJw h=>?_) (λJw h=>?_)))));refine .t (.t (.t (.t (.t (.f (.t (.f (.t (.d ?_)))))))));exact aTB;refine .f (.f (.f (.t (.f (.f (.t (.f (sD h (λDv h=>?_) (λDv h=>?_)))))))));refine .d ?_;exact aTB;exact ct ⟨si h,rfl,rfl⟩ (tk [] ⟨.l,⟨⟩⟩ ⟨⟩);exact .f (.f (.f (.f (.f (.f (.f (.f (.f (.f (.f (ct ⟨si h,rfl,rfl⟩ (tk [] ⟨.l,⟨⟩⟩ ⟨⟩))))))))))));refine .f (.f (.f (.f (.f (.f (.f (.f (sN h (λIe h=>?_) (λIe h=>?_)))))))));refine⟨rfl,(.t ⟨rfl,_,rfl,(.t ⟨rfl,(.t (.t (sD h (λA8 h=>?_) (λA8 h=>?_))))⟩)⟩)⟩;refine .t (.t (.t (.t (.t (.t (.t (.t (.t (.t (.f (.t (.f (.t (.d ?_))))))))))))));exact aTB;refine .f (.t (.f (.t (sD h (λIm h=>?_) (λIm h=>?_)))));refine .t (.t (.t (.t (.t (.f (.t (.f (.t (.d ?_)))))))));exact aTB;refine .f (.f (.f (.t (.f (.f (.t (.f (sD h (λQf h=>?_) (λQf h=>?_)))))))));refine .d ?_;exact aTB;exact ct ⟨si h,rfl,rfl⟩ (tk [] ⟨.l,⟨⟩⟩ ⟨⟩);exact .f (.f (.f (.f (.f (.f (.f (.f (.f (.f (.f (ct ⟨si h,rfl,rfl⟩ (tk [] ⟨.l,⟨⟩⟩ ⟨⟩))))))))))));rintro _ _ ⟨rfl,rfl,rfl⟩;refine .d (bk ym λA O h=>(bO (y0 O) (.d ?_)));obtain⟨⟨a,B⟩,O0,h⟩:=bd h;refine aqk (El O0) ?_;rintro _ _ ⟨j,k,rfl,rfl⟩;refine⟨.gJ [.agg [.int .i64 a.ah,.int .i64 a.aE,.str a.al,.own 0 0 0 a.af.length],.int .i64 B],[.row 0 4 a.af.length 29 j],rfl,(by simp only[aRD,aRX,shr,shd k];rfl),rfl,_,_,rfl,au,?_⟩;obtain⟨P,h,Gi⟩:=bd h;refine .cut (λσ η=>.inl ()=P/\σ=[(7,.str A),(8,.aI 0 0 0 0)]/\η=[.row 0 4 1 29 (λ_=>[.int .i64 a.ah,.int .i64 a.aE,.str a.al,.own 1 0 0 a.af.length]),.row 0 4 a.af.length 29 j]) ?_ ?_;obtain⟨Q,h,R⟩:=bd h;refine .cut (λσ η=>∃q,q=Q/\σ=[(7,.str A),(8,.aI 0 0 0 0),(9,.int .i64 B),(77,.bool q)]/\η=[.row 0 4 1 29 (λ_=>[.int .i64 a.ah,.int .i64 a.aE,.str a.al,.own 1 0 0 a.af.length]),.row 0 4 a.af.length 29 j]) ?_ ?_;refine sN h (λDw h=>?_) (λDw h=>?_);exact .t (.t (.t (.t (.t (.t (.t (.t (.t (.t (.t (ct ⟨_,si h,rfl,rfl⟩ (tk [1,0] ⟨.s,.p,.i,.b,⟨⟩⟩ ⟨(nb rfl ⟨.i,.i,.s,.oe,⟨⟩⟩),Gj,⟨⟩⟩))))))))))));refine .f (.f (.f (sD h (λOa h=>?_) (λOa h=>?_))));exact .t (.t (.t (.t (.t (.t (.t (ct ⟨_,si h,rfl,rfl⟩ (tk [1,0] ⟨.s,.p,.i,.b,⟨⟩⟩ ⟨(nb rfl ⟨.i,.i,.s,.oe,⟨⟩⟩),Gj,⟨⟩⟩))))))));refine⟨rfl,_,rfl,(.f (bk h λa4 S h=>(Vr (FZ S) ⟨.cr ⟨.i,.i,.s,(.rd k),⟨⟩⟩,⟨⟩⟩ (.f (.f (sD h (λT h=>?_) (λT h=>?_)))))))⟩;exact .t (.t (.t (ct ⟨_,si h,rfl,rfl⟩ (tk [1,0] ⟨.s,.p,.i,.b,⟨⟩⟩ ⟨(nb rfl ⟨.i,.i,.s,.oe,⟨⟩⟩),Gj,⟨⟩⟩))));exact⟨rfl,_,rfl,(.f (bk h λAX Yz h=>(Vr (wz Yz) ⟨.cr ⟨.i,.i,.s,(.rd k),⟨⟩⟩,⟨⟩⟩ (.f (.f (ct ⟨_,si h,rfl,rfl⟩ (tk [1,0] ⟨.s,.p,.i,.b,⟨⟩⟩ ⟨(nb rfl ⟨.i,.i,.s,.oe,⟨⟩⟩),Gj,⟨⟩⟩)))))))⟩;rintro _ _ ⟨q,rfl,rfl,rfl⟩;refine sV R (λIQ h=>?_) (λIQ h=>?_);refine .d (sE h (λYA h=>?_) (λYA h=>?_));refine .t (.t (.t (.t ?_)));obtain rfl:=si h;exact eB Gi;refine⟨rfl,(.f ⟨rfl,_,rfl,(.f ⟨rfl,(.f (.f ?_))⟩)⟩)⟩;obtain rfl:=si h;exact eB Gi;exact ct ⟨si h,rfl,rfl⟩ (tk [0,1] ⟨.s,.p,⟨⟩⟩ ⟨(nb rfl ⟨.i,.i,.s,.oe,⟨⟩⟩),Gj,⟨⟩⟩);rintro _ _ ⟨rfl,rfl,rfl⟩;refine .d (bk Gi λU C h=>⟨aB C,U,aC C,(bk h λV XL h=>⟨aB XL,V,aC XL,?_⟩)⟩);obtain⟨⟨g,OD,W⟩,X,h⟩:=bd h;refine aqk (tP X) ?_;rintro _ _ ⟨n,m,rfl,rfl⟩;refine⟨.gJ [.agg [.int .i64 g.ah,.int .i64 g.aE,.str g.al,.own 2 0 0 g.af.length],.int .i64 OD,.int .i64 W],[.row 0 4 1 29 (λ_=>[.int .i64 a.ah,.int .i64 a.aE,.str a.al,.own 1 0 0 a.af.length]),.row 0 4 a.af.length 29 j,.row 0 4 g.af.length 29 n],rfl,(by simp only[aRD,aRX,shr,shd m];rfl),rfl,_,_,rfl,au,(bk h λc F h=>?_)⟩;obtain⟨Y,o,Z,u⟩:=ae.aka (DR.idx m F);refine .ex [.row 0 4 1 29 (λ_=>[.int .i64 a.ah,.int .i64 a.aE,.str a.al,.own 1 0 0 a.af.length]),.row 0 4 a.af.length 29 j,.row 0 4 g.af.length 29 (gN n ((0:Int).toNat) [.int .i64 c.ah,.int .i64 c.aE,.str c.al,.own 4 0 0 c.af.length]),.row 0 4 1 29 (λ_=>[.int .i64 g.ah,.int .i64 g.aE,.str g.al,.own 2 0 0 g.af.length]),.row 0 4 c.af.length 29 o] (exs 2 3 [.int .i64 c.ah,.int .i64 c.aE,.str c.al,.fG 4 c.af.length 29 o Y] [.int .i64 c.ah,.int .i64 c.aE,.str c.al,.own 4 0 0 c.af.length] (gN n ((0:Int).toNat) [.int .i64 c.ah,.int .i64 c.aE,.str c.al,.own 4 0 0 c.af.length]) (DR.lt m F) Z nQ abj rfl rfl rfl rfl) (bk h λe v h=>?_);obtain⟨aa,E,ad,ag⟩:=ae.aka (DR.idx u v);refine .ex [.row 0 4 1 29 (λ_=>[.int .i64 a.ah,.int .i64 a.aE,.str a.al,.own 1 0 0 a.af.length]),.row 0 4 a.af.length 29 j,.row 0 4 g.af.length 29 (gN n ((0:Int).toNat) [.int .i64 c.ah,.int .i64 c.aE,.str c.al,.own 4 0 0 c.af.length]),.row 0 4 1 29 (λ_=>[.int .i64 g.ah,.int .i64 g.aE,.str g.al,.own 2 0 0 g.af.length]),.row 0 4 c.af.length 29 (gN o ((0:Int).toNat) [.int .i64 e.ah,.int .i64 e.aE,.str e.al,.own 5 0 0 e.af.length]),.row 0 4 e.af.length 29 E] (exs 4 3 [.int .i64 e.ah,.int .i64 e.aE,.str e.al,.fG 4 e.af.length 29 E aa] [.int .i64 e.ah,.int .i64 e.aE,.str e.al,.own 5 0 0 e.af.length] (gN o ((0:Int).toNat) [.int .i64 e.ah,.int .i64 e.aE,.str e.al,.own 5 0 0 e.af.length]) (DR.lt u v) ad nQ abj rfl rfl rfl rfl) (.d (.float [(0,true),(1,false),(2,true),(3,true),(4,true),(5,true),(6,true),(7,true),(8,true),(9,true),(10,true),(11,true),(12,true),(13,true),(14,true),(15,true),(16,true),(17,true),(18,true),(19,true),(20,true),(21,true),(22,true),(23,true),(24,true),(25,true),(26,true),(27,true),(28,true),(29,false),(30,true),(31,true)] aUJ ?_));refine⟨rfl,_,rfl,(bk h λNx Ig h=>(Vr (Cf Ig) ⟨.cr ⟨.i,.i,.s,(.rd k),⟨⟩⟩,⟨⟩⟩ (sV h (λOc h=>?_) (λOc h=>?_))))⟩;refine .t (.t (sE h (λa1 h=>?_) (λa1 h=>?_)));refine⟨rfl,(.t ⟨rfl,_,rfl,(.t ⟨rfl,(.t (.t (sE h (λa2 h=>?_) (λa2 h=>?_))))⟩)⟩)⟩;refine⟨rfl,(.t ⟨rfl,_,rfl,(.t ⟨rfl,DR.bd m F,_,aRf _,(.t ⟨rfl,(.t ⟨rfl,_,nQ,(.t (.t (sE h (λWj h=>?_) (λWj h=>?_))))⟩)⟩)⟩)⟩)⟩;refine⟨rfl,(.t ⟨rfl,_,rfl,(.t ⟨rfl,DR.bd m F,_,aRf _,(.t ⟨rfl,(.t ⟨rfl,_,nQ,(.t ⟨rfl,DR.bd u v,_,aRf _,(.t ⟨rfl,_,nQ,(.t ⟨rfl,_,rfl,?_⟩)⟩)⟩)⟩)⟩)⟩)⟩)⟩;exact .t (bk h λGX a3 h=>(Vr (Ga a3) ⟨.cr ⟨.i,.i,.s,(.rd ag),⟨⟩⟩,.cr ⟨.i,.i,.s,(.rd k),⟨⟩⟩,⟨⟩⟩ (.t (eB h))));exact aUr;refine .f (.f (.f (.f (.f (.f (.f (.f (.f (.f (.f (.f (.f (.f (.f ?_))))))))))))));exact .f (eB h);refine .f (.f (.f (.f (.f (.f (.f (.f (.f (.f (.f (.f (.f (.f (.f ?_))))))))))))));exact .f (.f (.f (.f (.f (.f (eB h))))));refine .f (.f (.f (.f (.f (.f (.f (.f (.f (.f (.f (.f (.f (.f (.f ?_))))))))))))));exact aUr
theorem sb {α β:Type} (a:α) (f:α->Option β):(some a>>=f)=f a:=rfl
theorem jE {s:av} {i:Nat} (h:i<s.length):lz s (i:Int)=some (s.getD i 0):=by
 unfold lz;rw[At ⟨by omega,by omega⟩];rfl
theorem dj {α:Type} [Inhabited α] {l:List α} {i:Nat} (h:i<l.length):idx l (i:Int)=some l[i]:=by
 unfold idx;rw[At ⟨by omega,by omega⟩];simp [aRb,h]
theorem kj {x:Int} {n:Nat} (h:x=(n:Int)) (a:n<=9223372036854775807):bq x=(n:Int):=by
 subst h;exact Ks aUE aUE
theorem ca {i:Nat} (h:i<9223372036854775807):bq ((i:Int)+1)=((i+1:Nat):Int):=kj aUE aUE
theorem iz {α:Type} {b:Nat} {l m:List α} (h:(l.length+m.length)*b<=140737488355328):cD b l m=some (l++m):=At h
theorem tQ (a b c:Int):NK a b c=some (decide (b<=a/\a<=c)):=by
 unfold NK;by_cases h:b<=a
 ·rw[At h];congr 1;simp;omega
 ·rw[As h];congr 1;symm;rw[decide_eq_false_iff_not];omega
theorem sC (a b c:Int):A6 a b c=some (decide (b<=a/\a<=c)):=by
 unfold A6;by_cases h:a>=b
 ·rw[At h];congr 1;simp;omega
 ·rw[As h];congr 1;symm;rw[decide_eq_false_iff_not];omega
def isLet (b:UInt8):Bool:=decide (65<=b.toNat/\b.toNat<=90)||decide (97<=b.toNat/\b.toNat<=122)
def nv (b:UInt8):Bool:=decide (48<=b.toNat/\b.toNat<=57)
theorem Qh (b:UInt8):nR (b.toNat:Int)=some (isLet b):=by
 unfold nR isLet;by_cases h:(b.toNat:Int)>=65
 ·rw[At h];by_cases h2:(b.toNat:Int)<=90
  ·rw[At h2];congr 1;symm;simp;omega
  ·rw[As h2];by_cases a:(b.toNat:Int)>=97
   ·rw[At a];congr 1;rw[aSP];simp;omega
   ·rw[As a];congr 1;symm;simp;omega
 ·rw[As h,As aUE];congr 1;symm;simp;omega
theorem Em (b:UInt8):lS (b.toNat:Int)=some (nv b):=by
 unfold lS nv;by_cases h:(b.toNat:Int)>=48
 ·rw[At h];congr 1;rw[aSP];simp;omega
 ·rw[As h];congr 1;symm;simp;omega
theorem wb (b:UInt8):bq (b.toNat:Int)=(b.toNat:Int):=by
 have:=b.toNat_lt;exact Ks aUE aUE
theorem afi (b:UInt8):mL (b.toNat:Int)=some (isLet b||decide (b.toNat=95)):=by
 unfold mL isLet;rw[wb,sC,sb];by_cases h:(97:Int)<=(b.toNat:Int)/\(b.toNat:Int)<=122
 ·rw[At aUP];congr 1;symm;simp;omega
 ·rw[As aUP,sC,sb];by_cases h2:(65:Int)<=(b.toNat:Int)/\(b.toNat:Int)<=90
  ·rw[At aUP];congr 1;symm;simp;omega
  ·rw[As aUP];congr 1;rw[aSP];simp;omega
theorem afj (b:UInt8):nU (b.toNat:Int)=some (nv b):=by
 unfold nU nv;rw[wb,sC,sb];congr 1;rw[aSP];simp;omega
def xa (s:av):Nat->Nat->Nat
 | 0,i=>i
 | f+1,i=>if i<s.length then(if isLet (s.getD i 0)||decide ((s.getD i 0).toNat=95)||(decide (0<i)&&nv (s.getD i 0))then xa s f (i+1)else i)else i
theorem Ma (s:av) (hs:s.length<9223372036854775807):∀(f i:Nat),s.length<=i+f->i<=s.length->c6 s (i:Int)=some ((xa s (f+1) i:Nat):Int)
 | f,i,h,hi=>by
  rw[c6,xa];by_cases hc:i<s.length
  ·rw[At aUE,At hc,jE hc,sb,Qh,sb,ca aUE];obtain⟨g,rfl⟩:∃g,f=g+1:=⟨f - 1,by omega⟩;have a:=Ma s hs g (i+1) aUE aUE;cases c:isLet (s.getD i 0)
   ·rw[As aUG,sb];by_cases b:(s.getD i 0).toNat=95
    ·rw[At aUE,a,At (by simp only[b,eq_self,decide_true,aSg,aSl])]
    ·rw[As aUE];by_cases h0:0<i
     ·rw[At aUE,sb,Em,sb];cases hd:nv (s.getD i 0)
      ·rw[As aUG,As (by simp only[b,decide_false,aRH,aRF,aRy];simp)]
      ·rw[At rfl,a,At (by simp only[h0,decide_true,aSn,aSg])]
     ·rw[As aUE,As (by simp only[b,h0,decide_false,aSj,aRH];simp)]
   ·rw[At rfl,a,At aUG]
  ·rw[As aUE,As hc]
theorem Mb (s:av) (hs:s.length<9223372036854775807):∀(f i:Nat),s.length<=i+f->i<=s.length->kl s 0 (i:Int)=some ((xa s (f+1) i:Nat):Int)
 | f,i,h,hi=>by
  rw[kl,xa];by_cases hc:i<s.length
  ·rw[At aUE,At hc,jE hc,sb,afi,sb,ca aUE];obtain⟨g,rfl⟩:∃g,f=g+1:=⟨f - 1,by omega⟩;have a:=Mb s hs g (i+1) aUE aUE;cases b:(isLet (s.getD i 0)||decide ((s.getD i 0).toNat=95))
   ·rw[As aUG];by_cases h0:0<i
    ·rw[At aUE,sb,afj,sb];cases hd:nv (s.getD i 0)
     ·rw[As aUG,As aUG]
     ·rw[At rfl,a,At (by simp [h0])]
    ·rw[As aUE,As (by simp [h0])]
   ·rw[At rfl,a,At aUG]
  ·rw[As aUE,As hc]
theorem Ux (s:av):∃b,oU s=some b/\rk s=some b:=by
 unfold oU rk;by_cases h:s.length<=20
 ·rw[At aUE]
  have a:er s=some ((xa s (s.length+1) 0:Nat):Int):=by
   unfold er;have:=Ma s aUE s.length 0 aUE aUE;rw[show((0:Nat):Int)=0 from rfl]at this;rw[this,sb]
  have e2:pQ s 0=some ((xa s (s.length+1) 0:Nat):Int):=by
   unfold pQ;have:=Mb s aUE s.length 0 aUE aUE;rw[show((0:Nat):Int)=0 from rfl]at this;rw[this,sb]
  rw[a,sb,e2];cases s with
  | nil=>exact⟨_,rfl,rfl⟩
  | cons c r=>
   rw[At (show((c::r).length:Int)>=1 by simp;omega),At (show((c::r).length:Int)<=20 by omega),sb];by_cases he:xa (c::r) ((c::r).length+1) 0=(c::r).length
   ·rw[At aUE];refine⟨_,rfl,?_⟩;congr 1;simp only[aRi,he];simp
   ·rw[As aUE];refine⟨_,rfl,?_⟩;congr 1;rw[an];omega
 ·rw[As aUE];refine⟨_,rfl,?_⟩;rw[At aUE,As aUE]
def CQ:List av:=[[101,99,104,111],[105,102],[101,108,115,101],[119,104,105,108,101],[102,111,114,101,97,99,104],[97,115],[98,114,101,97,107],[99,111,110,116,105,110,117,101],[114,101,116,117,114,110],[103,108,111,98,97,108],[117,110,115,101,116],[116,104,114,111,119],[116,114,121],[99,97,116,99,104],[102,105,110,97,108,108,121],[121,105,101,108,100],[105,110,99,108,117,100,101],[102,117,110,99,116,105,111,110],[99,108,97,115,115],[116,114,97,105,116],[101,120,116,101,110,100,115],[117,115,101],[112,114,105,118,97,116,101],[115,116,97,116,105,99],[110,101,119],[116,114,117,101],[102,97,108,115,101],[110,117,108,108]]
theorem Su (s:av):∀(f k:Nat),CQ.length<=k+f->jF s (k:Int)=some (if(CQ.drop k).any (λx=>decide (s=x))then .inr true else .inl ())
 | f,k,h=>by
  rw[jF];change (if(k:Int)<(CQ.length:Int)then idx CQ (k:Int)>>=_ else _)=_
  by_cases hc:k<CQ.length
  ·have a:CQ.length=28:=rfl;rw[At aUE,dj hc,sb,ca aUE,aRl hc,List.any_cons];by_cases he:CQ[k]=s
   ·rw[At he,At (by rw[<-he];simp)]
   ·obtain⟨g,rfl⟩:∃g,f=g+1:=⟨f - 1,by omega⟩;rw[As he,Su s g (k+1) aUE,aRA (λh=>he h.symm),aRy]
  ·rw[As aUE,aRd aUE];rfl
theorem eg {s x:av} {b:Bool} {z:Option Bool} (h:z=some b):(if s=x then some true else z)=some (decide (s=x)||b):=by
 subst h;by_cases h:s=x
 ·rw[At h,aSa h,aSl]
 ·rw[As h,aRA h,aRy]
theorem afk (s:av):lT s=some (CQ.any λx=>decide (s=x)):=by
 unfold lT;have:=Su s CQ.length 0 aUE;rw[show((0:Nat):Int)=0 from rfl,aRk]at this;rw[this,sb];cases hc:CQ.any (λx=>decide (s=x))
 ·rfl
 ·rfl
theorem afl (s:av):lU s=some (CQ.any λx=>decide (s=x)):=by
 have e:CQ.any (λx=>decide (s=x))=(decide (s=([101,99,104,111]:av))||(decide (s=([105,102]:av))||(decide (s=([101,108,115,101]:av))||(decide (s=([119,104,105,108,101]:av))||(decide (s=([102,111,114,101,97,99,104]:av))||(decide (s=([97,115]:av))||(decide (s=([98,114,101,97,107]:av))||(decide (s=([99,111,110,116,105,110,117,101]:av))||(decide (s=([114,101,116,117,114,110]:av))||(decide (s=([103,108,111,98,97,108]:av))||(decide (s=([117,110,115,101,116]:av))||(decide (s=([116,104,114,111,119]:av))||(decide (s=([116,114,121]:av))||(decide (s=([99,97,116,99,104]:av))||(decide (s=([102,105,110,97,108,108,121]:av))||(decide (s=([121,105,101,108,100]:av))||(decide (s=([105,110,99,108,117,100,101]:av))||(decide (s=([102,117,110,99,116,105,111,110]:av))||(decide (s=([99,108,97,115,115]:av))||(decide (s=([116,114,97,105,116]:av))||(decide (s=([101,120,116,101,110,100,115]:av))||(decide (s=([117,115,101]:av))||(decide (s=([112,114,105,118,97,116,101]:av))||(decide (s=([115,116,97,116,105,99]:av))||(decide (s=([110,101,119]:av))||(decide (s=([116,114,117,101]:av))||(decide (s=([102,97,108,115,101]:av))||(decide (s=([110,117,108,108]:av))||false)))))))))))))))))))))))))))):=rfl;rw[e];unfold lU;exact(eg (eg (eg (eg (eg (eg (eg (eg (eg (eg (eg (eg (eg (eg (eg (eg (eg (eg (eg (eg (eg (eg (eg (eg (eg (eg (eg (eg rfl))))))))))))))))))))))))))))
theorem Sv (s:av):∃b,bK s=some b/\dV s=some b:=by
 obtain⟨b,h1,h2⟩:=Ux s;unfold bK dV;rw[h1,h2,sb,sb,afl,afk];cases b
 ·exact⟨_,rfl,rfl⟩
 ·exact⟨_,rfl,rfl⟩
def good (s:av):Bool:=(bK s).getD false
theorem tR (s:av):bK s=some (good s):=by obtain⟨v,h,_⟩:=Sv s;rw[good,h];rfl
theorem Sw (s:av):dV s=some (good s):=by obtain⟨v,h,h2⟩:=Sv s;rw[good,h,h2];rfl
def q1 (b:UInt8):List UInt8:=if b.toNat=39\/b.toNat=92 then[92,b]else[b]
def qt (s:av):av:=[39]++s.flatMap q1++[39]
theorem Sx (s:av) (hs:s.length<=1099511627776):∀(f i:Nat) (l:List UInt8),s.length<=i+f->l.length<=2*i+1->gC s l (i:Int)=some (l++(s.drop i).flatMap q1)
 | f,i,l,h,a=>by
  rw[gC];by_cases hc:i<s.length
  ·obtain⟨g,rfl⟩:∃g,f=g+1:=⟨f - 1,by omega⟩;have hd:s.getD i 0=s[i]:=by simp [aRb,hc]
   rw[At aUE,jE hc,sb,ca aUE,aRl hc,aSm,hd];by_cases h1:s[i].toNat=39
   ·rw[At aUE,iz aUP,sb,sb,iz aUP,sb,Sx s hs g (i+1) _ aUE aUP];simp [q1,h1]
   ·rw[As aUE,sb];by_cases h2:s[i].toNat=92
    ·rw[At aUE,iz aUP,sb,sb,iz aUP,sb,Sx s hs g (i+1) _ aUE aUP];simp [q1,h2]
    ·rw[As aUE,sb,iz aUP,sb,Sx s hs g (i+1) _ aUE aUP];simp [q1,h1,h2]
  ·rw[As aUE,aRd aUE];simp
theorem En:∀s:av,(s.flatMap q1).length<=2*s.length
 | []=>by simp
 | b::s=>by
  have:=En s;have h1:(q1 b).length<=2:=by unfold q1;split<;>simp
  simp only[aSm,It,so];omega
theorem sQ (s:av) (hs:s.length<=1099511627776):lj s=some (qt s):=by
 unfold lj;have:=Sx s hs s.length 0 [39] aUE aUG;rw[show((0:Nat):Int)=0 from rfl,aRk]at this;have hf:=En s;rw[this,sb,iz aUO,sb];rfl
theorem Jy:∀(k u:Nat),u<10 ^ (k+1)->Lib.nDigits u<=k+1
 | 0,u,h=>by rw[Lib.nDigits_small aVn];exact Of _
 | k+1,u,h=>by
  by_cases h1:u<10
  ·rw[Lib.nDigits_small h1];omega
  ·rw[Lib.nDigits_big h1];have:=Jy k (u / 10) (by rw[Nat.pow_succ]at h;omega);omega
theorem Eo (u:Nat):Lib.decDigits u=(if u / 10=0 then[]else Lib.decDigits (u / 10))++[UInt8.ofNat (48+u % 10)]:=by
 by_cases h:u<10
 ·rw[At aUE,Lib.decDigits,dif_pos h,show u % 10=u by omega];rfl
 ·rw[As aUE];conv=>lhs;rw[Lib.decDigits,dif_neg h]
theorem abk:∀(k:Nat) (out:av) (m:Int),m.natAbs<10 ^ k-> -9223372036854775808<=m->m<=9223372036854775807->k+out.length<=1000->
  xb out m=some ((if m=0 then[]else Lib.decDigits m.natAbs)++out)
 | 0,out,m,h,_,_,_=>by
  have:m=0:=by simp at h;exact h
  subst this;rw[xb,At rfl,At rfl];rfl
 | k+1,out,m,h,h0,h1,ho=>by
  rw[xb];by_cases hm:m=0
  ·rw[At hm,At hm];rfl
  rw[As hm,As hm];have ab:(m.tmod 10).natAbs=m.natAbs % 10:=Int.natAbs_tmod m 10;have c:(m.tdiv 10).natAbs=m.natAbs / 10:=Int.natAbs_tdiv m 10;have e:bq (m.tdiv 10)=m.tdiv 10:=by rw[bq,Ks]<;>omega
  have fin:∀d:Int,d=((m.natAbs % 10:Nat):Int)->UInt8.ofNat (IntKind.u8.wrap (bq (48+d))).toNat=UInt8.ofNat (48+m.natAbs % 10):=λd hd=>by
   subst hd;rw[bq,Ks aUE aUE,IntKind.wrap_u8];congr 1;omega
  have next:xb ([UInt8.ofNat (48+m.natAbs % 10)]++out) (bq (m.tdiv 10))=some (Lib.decDigits m.natAbs++out):=by
   rw[e,abk k _ _ (by rw[Nat.pow_succ]at h;omega) aUE aUE aUP,Eo m.natAbs,c,aRm];by_cases h:m.tdiv 10=0
   ·rw[At h,At aUE]
   ·rw[As h,As aUE]
  have hs:∀b:UInt8,bx [b] out=some ([b]++out):=λb=>At aUP;by_cases a:m.tmod 10<0
  ·rw[At a,hs,sb,fin _ (by rw[bq,Ks]<;>omega),next]
  ·rw[As a,hs,sb,fin _ aUE,next]
theorem aqn (n:Int) (h0: -9223372036854775808<=n) (h1:n<=9223372036854775807):m94 n=some (Lib.itoa n):=by
 unfold m94;by_cases h:n=0
 ·subst h;rw[At rfl,show Lib.itoa 0=[48] by decide +kernel]
 rw[As h,abk 20 [] n (by simp only[Nat.reducePow];omega) h0 h1 aUG,sb,As h,aRz];unfold Lib.itoa;have hL:(Lib.decDigits n.natAbs).length<=20:=by rw[Lib.decDigits_length];exact Jy 19 _ (by simp only[Nat.reduceAdd,Nat.reducePow];omega)
 by_cases a:n<0
 ·rw[At a,At a,bx,At aUP];rfl
 ·rw[As a,As a,show n.natAbs=n.toNat by omega]
theorem abl (n:Int) (h0:0<=n) (h1:n<=1000000000):1<=(Lib.itoa n).length/\(Lib.itoa n).length<=20:=by
 unfold Lib.itoa;rw[As aUE,Lib.decDigits_length];have a:=Jy 19 n.toNat (by simp only[Nat.reduceAdd,Nat.reducePow];omega);have b:=Lib.nDigits_pos n.toNat
 omega
theorem drop_cons {s:av} {i:Nat} (h:i<s.length):s.drop i=s.getD i 0::s.drop (i+1):=by
 rw[aRl h,aRb];simp [h]
theorem sOp (n:Int) (h1:1<=n) (h2:n<=15):∃s,fN n=some s/\qH n=some s/\∃k,eC n=some k/\lP n=some k/\6<=k/\k<=10:=by
 obtain⟨k,rfl⟩:∃k:Nat,n=(k:Int):=⟨n.toNat,by omega⟩;have a:k<=15:=by omega
 have b:1<=k:=by omega
 match k,a,b with
 | 1,_,_=>exact⟨_,rfl,rfl,_,rfl,rfl,by decide,by decide⟩
 | 2,_,_=>exact⟨_,rfl,rfl,_,rfl,rfl,by decide,by decide⟩
 | 3,_,_=>exact⟨_,rfl,rfl,_,rfl,rfl,by decide,by decide⟩
 | 4,_,_=>exact⟨_,rfl,rfl,_,rfl,rfl,by decide,by decide⟩
 | 5,_,_=>exact⟨_,rfl,rfl,_,rfl,rfl,by decide,by decide⟩
 | 6,_,_=>exact⟨_,rfl,rfl,_,rfl,rfl,by decide,by decide⟩
 | 7,_,_=>exact⟨_,rfl,rfl,_,rfl,rfl,by decide,by decide⟩
 | 8,_,_=>exact⟨_,rfl,rfl,_,rfl,rfl,by decide,by decide⟩
 | 9,_,_=>exact⟨_,rfl,rfl,_,rfl,rfl,by decide,by decide⟩
 | 10,_,_=>exact⟨_,rfl,rfl,_,rfl,rfl,by decide,by decide⟩
 | 11,_,_=>exact⟨_,rfl,rfl,_,rfl,rfl,by decide,by decide⟩
 | 12,_,_=>exact⟨_,rfl,rfl,_,rfl,rfl,by decide,by decide⟩
 | 13,_,_=>exact⟨_,rfl,rfl,_,rfl,rfl,by decide,by decide⟩
 | 14,_,_=>exact⟨_,rfl,rfl,_,rfl,rfl,by decide,by decide⟩
 | 15,_,_=>exact⟨_,rfl,rfl,_,rfl,rfl,by decide,by decide⟩
 | 0,_,h=>omega
 | k+16,h,_=>omega
mutual
def sz:ae->Nat | .mk _ _ _ k=>1+jT k
def jT:List ae->Nat | []=>0 | x::r=>sz x+jT r
end
mutual
def dp:ae->Nat | .mk _ _ _ k=>1+NL k
def NL:List ae->Nat | []=>0 | x::r=>max (dp x) (NL r)
end
theorem jU (n:ae):sz n=1+jT n.af:=by cases n;rfl
theorem Sy (n:ae):dp n=1+NL n.af:=by cases n;rfl
theorem xc:∀(l:List ae) (i:Nat) (h:i<l.length),jT (l.drop i)=sz l[i]+jT (l.drop (i+1))
 | x::r,0,h=>rfl
 | x::r,i+1,h=>xc r i aVn
theorem Ep:∀(l:List ae) (i:Nat) (h:i<l.length),NL (l.drop i)=max (dp l[i]) (NL (l.drop (i+1)))
 | x::r,0,h=>rfl
 | x::r,i+1,h=>Ep r i aVn
theorem rm (n:ae):0<sz n:=by rw[jU];omega
theorem abm:∀(l:List ae) (i:Nat),jT (l.drop i)<=jT l
 | [],i=>by simp [jT]
 | x::r,0=>Of _
 | x::r,i+1=>aSe (abm r i) (by show jT r<=sz x+jT r;omega)
theorem Bx (l:List ae) (i:Nat) (h:i<l.length):sz l[i]<=jT l:=by
 have:=xc l i h;have:=abm l i;omega
theorem uT:∀l:List ae,l.length<=jT l
 | []=>Of _
 | x::r=>by have:=uT r;have:=rm x;simp only[so];show r.length+1<=sz x+jT r;omega
theorem Mc:∀(k:Nat),(∀n:ae,sz n<=k->sz n<4611686018427387904->kI n=some (sz n:Int))
 | 0,n,h,_=>by have:=rm n;omega
 | k+1,n,h,c=>by
  have a:=jU n
  have go:∀(f i s:Nat),n.af.length<=i+f->s+jT (n.af.drop i)<4611686018427387904->jt n (s:Int) (i:Int)=some ((s+jT (n.af.drop i):Nat):Int):=by
   intro f;induction f with
   | zero=>
    intro i s h1 h2;rw[jt,As aUE,aRd aUE];rfl
   | succ f b=>
    intro i s h1 h2;rw[jt];by_cases hc:i<n.af.length
    ·have hd:=xc n.af i hc;have d:=Bx n.af i hc;have e:=uT n.af;rw[At aUE,dj hc,sb,Mc k _ aUE aUE,sb,ca aUE,kj (n:=s+sz n.af[i]) aUE aUE,b (i+1) _ aUE aUE,hd,aTg]
    ·rw[As aUE,aRd aUE];rfl
  have h0:=go n.af.length 0 1 aUE (by rw[aRk];omega);rw[kI];rw[show((1:Nat):Int)=1 from rfl,show((0:Nat):Int)=0 from rfl,aRk]at h0;rw[h0,sb,a]
theorem aBC (a b:Nat):m91 (a:Int) (b:Int)=some ((max a b:Nat):Int):=by
 unfold m91;by_cases h:a<b
 ·rw[At aUE,aTp aUE]
 ·rw[As aUE,Nat.max_eq_left aUE]
theorem aBD (a b:Nat):m93 (a:Int) (b:Int)=some ((max a b:Nat):Int):=by
 unfold m93;by_cases h:a<b
 ·first | rw[At aUE,aTp aUE] | rw[As aUE,aTp aUE]
 ·by_cases h2:b<a
  ·first | rw[As aUE,Nat.max_eq_left aUE] | rw[At aUE,Nat.max_eq_left aUE]
  ·obtain rfl:a=b:=by omega
   split<;>simp
mutual
theorem aBE:∀n:ae,dp n<=sz n
 | .mk _ _ _ k=>by have:=C7 k;show 1+NL k<=1+jT k;omega
theorem C7:∀l:List ae,NL l<=jT l
 | []=>Of _
 | x::r=>by have:=aBE x;have:=C7 r;show max (dp x) (NL r)<=sz x+jT r;omega
end
theorem Qi:∀(k:Nat),(∀n:ae,sz n<=k->sz n<4611686018427387904->iC n=some (dp n:Int))
 | 0,n,h,_=>by have:=rm n;omega
 | k+1,n,h,c=>by
  have d:=jU n;have a:=Sy n;have e:=uT n.af
  have go:∀(f i s:Nat),n.af.length<=i+f->iJ n (s:Int) (i:Int)=some ((max s (NL (n.af.drop i)):Nat):Int):=by
   intro f;induction f with
   | zero=>
    intro i s h1;rw[iJ,As aUE,aRd aUE];simp [NL]
   | succ f b=>
    intro i s h1;rw[iJ];by_cases hc:i<n.af.length
    ·have g:=Bx n.af i hc;rw[At aUE,dj hc,sb,Qi k _ aUE aUE,sb,aBC,sb,ca aUE,b (i+1) _ aUE,Ep n.af i hc,Nat.max_assoc]
    ·rw[As aUE,aRd aUE];simp [NL]
  have h0:=go n.af.length 0 0 aUE;have j:=C7 n.af;rw[iC];rw[show((0:Nat):Int)=0 from rfl,aRk,Nat.zero_max]at h0;rw[h0,sb,kj (n:=NL n.af+1) aUE aUE,a,Nat.add_comm]
theorem abn:∀(k:Nat),(∀n:ae,sz n<=k->sz n<4611686018427387904->jK n=some (dp n:Int))
 | 0,n,h,_=>by have:=rm n;omega
 | k+1,n,h,c=>by
  have d:=jU n;have a:=Sy n;have e:=uT n.af
  have go:∀(f i s:Nat),n.af.length<=i+f->iK n (s:Int) (i:Int)=some ((max s (NL (n.af.drop i)):Nat):Int):=by
   intro f;induction f with
   | zero=>
    intro i s h1;rw[iK,As aUE,aRd aUE];simp [NL]
   | succ f b=>
    intro i s h1;rw[iK];by_cases hc:i<n.af.length
    ·have g:=Bx n.af i hc;rw[At aUE,dj hc,sb,abn k _ aUE aUE,sb,aBD,sb,ca aUE,b (i+1) _ aUE,Ep n.af i hc,Nat.max_assoc]
    ·rw[As aUE,aRd aUE];simp [NL]
  have h0:=go n.af.length 0 0 aUE;have j:=C7 n.af;rw[jK];rw[show((0:Nat):Int)=0 from rfl,aRk,Nat.zero_max]at h0;rw[h0,sb,kj (n:=NL n.af+1) aUE aUE,a,Nat.add_comm]
theorem Md:∀(k:Nat),(∀n:ae,sz n<=k->sz n<4611686018427387904->∀left:Int,0<=left->left<=600->∃v,lF n left=some v/\ -4611686018427387904<v/\v<=600/\((sz n:Int)<=left->v=left - sz n)/\(left<sz n->v<0))
 | 0,n,h,_,_,_,_=>by have:=rm n;omega
 | k+1,n,h,s,left,t,g=>by
  have w:=jU n;have x:=uT n.af
  have go:∀(f i:Nat) (y:Int),n.af.length<=i+f-> -4611686018427387904<y->y<=600->∃v,jV n y (i:Int)=some v/\ -4611686018427387904<v/\v<=600/\(0<=y->(jT (n.af.drop i):Int)<=y->v=y - jT (n.af.drop i))/\(y<jT (n.af.drop i)->v<0)/\(y<0->v<0):=by
   intro f;induction f with
   | zero=>
    intro i y h1 h2 a;rw[jV,As aUE,aRd aUE];exact⟨y,rfl,h2,a,λ_ _=>by simp [jT],λq=>by simp [jT]at q;exact q,λq=>q⟩
   | succ f j=>
    intro i y h1 h2 a;rw[jV];by_cases hc:i<n.af.length
    ·have z:=Bx n.af i hc;have hd:=xc n.af i hc;rw[At aUE];by_cases hy:0<=y
     ·obtain⟨v,d,e2,e,b,c⟩:=Md k n.af[i] aUE aUE y hy a;obtain⟨u,l,g2,m,o,p,r⟩:=j (i+1) v aUE e2 e;rw[At hy,dj hc,sb,d,sb,ca aUE,l];refine⟨u,rfl,g2,m,λ_ q=>?_,λq=>?_,λq=>by omega⟩
      ·have:=b aUE;have:=o aUE aUE;omega
      ·by_cases hq:(sz n.af[i]:Int)<=y
       ·have:=b hq;exact p aUE
       ·exact r (c aUE)
     ·rw[As hy];exact⟨y,rfl,h2,a,λq=>absurd q hy,λ_=>by omega,λq=>q⟩
    ·rw[As aUE,aRd aUE];exact⟨y,rfl,h2,a,λ_ _=>by simp [jT],λq=>by simp [jT]at q;exact q,λq=>q⟩
  obtain⟨v,d,e2,e,b,c,A⟩:=go n.af.length 0 (left - 1) aUE aUE aUE;rw[aRk]at b c
  have hw:bq (left - 1)=left - 1:=by
   by_cases h0:left=0
   ·subst h0;decide
   ·rw[kj (n:=(left - 1).toNat) aUE aUE];omega
  rw[lF,hw,show(0:Int)=((0:Nat):Int)from rfl,d,sb];refine⟨v,rfl,e2,e,λq=>?_,λq=>?_⟩
  ·have:=b aUE aUE;omega
  ·exact c aUE
theorem Mf (n:ae) (a:sz n<4611686018427387904):lh n=some (decide (sz n<=600/\dp n<=30))/\mj n=some (decide (sz n<=600/\dp n<=30)):=by
 obtain⟨v,b,_,_,c,d⟩:=Md (sz n) n (Of _) a 600 aUE aUE;unfold lh mj;rw[Mc (sz n) n (Of _) a,b,sb,sb];by_cases h:sz n<=600
 ·have:=c aUE;rw[At aUE,At aUE,abn (sz n) n (Of _) a,Qi (sz n) n (Of _) a,sb];constructor<;>(congr 1;simp only[decide_eq_decide];omega)
 ·have:=d aUE;rw[As aUE,As aUE];constructor<;>(rw[aRA aUE])
theorem Er {s p:av} {i:Nat} (hp:p≠[]) (h:¬i+p.length<=s.length):Lib.occAt s p i=false:=by
 cases hc:Lib.occAt s p i
 ·rfl
 ·rcases Lib.occAt_room hc with h2 | h2
  ·exact absurd h2 h
  ·exact absurd h2 hp
theorem Sz {s p:av} {i:Nat} (h:i+p.length<=s.length):((s.take (i+p.length)).drop i==p)=Lib.occAt s p i:=by
 rw[Lib.occAt_iff_take s p i h,List.drop_take,aSv]
theorem aqo {s p:av} {i:Nat} (hp:p≠[]) (a:p.length<=10) (hi:i<=s.length) (hs:s.length<=4611686018427387904):qO s (i:Int) p=some (Lib.occAt s p i):=by
 unfold qO;rw[kj (x:=(s.length:Int) - (i:Int)) (n:=s.length - i) aUE aUE,kj (x:=(i:Int)+(p.length:Int)) (n:=i+p.length) aUE aUE];by_cases h:i+p.length<=s.length
 ·rw[At aUE,By,At ⟨by omega,by omega,by omega⟩,sb,<-Sz h];rfl
 ·rw[As aUE,Er hp h]
theorem Qj (n:ae) (hs:n.al.length<=4611686018427387904):∀(f i:Nat) (b:Bool),n.al.length<=i+f->i<=n.al.length->
  ∃v,gD n b (i:Int)=some ((n.aE==0),v)/\(v=true↔b=true/\∀j,i<=j->j<n.al.length->Lib.occAt n.al [60,63] j=false)
 | f,i,b,h,hi=>by
  rw[gD];by_cases hc:i<n.al.length
  ·obtain⟨g,rfl⟩:∃g,f=g+1:=⟨f - 1,by omega⟩;rw[At aUE,ca aUE];cases b
   ·rw[As aUG];obtain⟨v,h1,h2⟩:=Qj n hs g (i+1) false aUE aUE;exact⟨v,h1,by rw[h2];simp⟩
   ·rw[At rfl,aqo aUG aUG hi hs,sb];obtain⟨v,h1,h2⟩:=Qj n hs g (i+1) (!Lib.occAt n.al [60,63] i) aUE aUE;refine⟨v,h1,?_⟩;rw[h2];constructor
    ·rintro⟨q,r⟩;refine⟨rfl,λj a c=>?_⟩;by_cases e:j=i
     ·subst e;simpa using q
     ·exact r j aUE c
    ·rintro⟨_,r⟩;exact⟨by simp [r i aUE hc],λj a c=>r j aUE c⟩
  ·rw[As aUE];exact⟨b,rfl,⟨λq=>⟨q,λj a c=>by omega⟩,λq=>q.1⟩⟩
def t31 (t:av):Bool:=!(t==([]:av))&&!decide (0<=Lib.index t [60,63])
theorem aqp (n:ae) (hs:n.al.length<=4611686018427387904):gD n (!(n.al==([]:av))) 0=some ((n.aE==0),t31 n.al):=by
 obtain⟨v,h1,h2⟩:=Qj n hs n.al.length 0 (!(n.al==([]:av))) aUE aUE;rw[show((0:Nat):Int)=0 from rfl]at h1;rw[h1];congr 2;rw[aSP,h2,t31,No];refine and_congr_right λ_=>?_;rcases Lib.index_spec n.al [60,63]with⟨e,q⟩ | ⟨i,e,q1,a,_⟩
 ·rw[e];exact⟨λ_=>by decide,λ_ j _ hj=>q j aUE⟩
 ·rw[e];constructor
  ·intro r;by_cases hi:i<n.al.length
   ·rw[r i aUE hi]at a;cases a
   ·rw[Er aUG aUP]at a;cases a
  ·intro r;simp at r
theorem Mg (s:av) (hs:s.length<=4611686018427387904):∀(f i:Nat),s.length<=i+f->i<=s.length->(∀j,j<i->Lib.occAt s [58,58] j=false)->
  kY s (i:Int)=some (if 0<=Lib.index s [58,58]then .inr (s.take (Lib.index s [58,58]).toNat,s.drop ((Lib.index s [58,58]).toNat+2))else .inl ())
 | f,i,h,hi,hj=>by
  rw[kY,ca aUE];by_cases hc:i+1<s.length
  ·obtain⟨g,rfl⟩:∃g,f=g+1:=⟨f - 1,by omega⟩;have ho:=Sz (s:=s) (p:=[58,58]) (i:=i) aUP;simp only[so,An]at ho;rw[At aUE,kj (x:=(i:Int)+2) (n:=i+2) aUE aUE,By,At ⟨by omega,by omega,by omega⟩,sb];show(if(s.take (i+2)).drop i=[58,58]then _ else _)=_;by_cases he:(s.take (i+2)).drop i=[58,58]
   ·have a:Lib.occAt s [58,58] i=true:=by rw[<-ho];simpa using he
    have hx:=Lib.index_first aUE a hj;rw[At he,hx,At aUE,sto,At ⟨by omega,by omega⟩,sb,jQ,At ⟨by omega,by omega⟩,sb];rfl
   ·have a:Lib.occAt s [58,58] i=false:=by rw[<-ho,an];exact he
    rw[As he];refine Mg s hs g (i+1) aUE aUE λj q=>?_;by_cases e:j=i
    ·subst e;exact a
    ·exact hj j aUE
  ·rw[As aUE,Lib.index_none (s:=s) (sub:=[58,58]) λj q=>by
    by_cases e:j<i
    ·exact hj j e
    ·exact Er aUG aUP]
   rfl
def t21 (t:av):Bool:=(Lib.cut t [58,58]).2.2&&((good (Lib.cut t [58,58]).1||(Lib.cut t [58,58]).1==([115,116,97,116,105,99]:av))&&good (Lib.cut t [58,58]).2.1)
theorem abo:good []=false:=by
 have h:=tR [];unfold bK oU er at h;rw[At aUF,c6,As aUF,sb,sb,At aUF,sb,As aUF]at h;injection h with h;exact h.symm
theorem abp (s:av) (hs:s.length<=4611686018427387904):∃a b,nV s=some (a,b)/\t21 s=((good a||a==([115,116,97,116,105,99]:av))&&good b):=by
 have h:=Mg s hs s.length 0 aUE aUE (λj q=>by omega);rw[show((0:Nat):Int)=0 from rfl]at h;unfold nV;rw[h,sb];unfold t21 Lib.cut;by_cases hc:0<=Lib.index s [58,58]
 ·rw[At hc,At hc];exact⟨_,_,rfl,by rw[aSn];rfl⟩
 ·rw[As hc,As hc];exact⟨_,_,rfl,by simp [abo]⟩
theorem Uy (s:av) (hs:s.length<4294967281):nW s=some (t21 s):=by
 unfold nW uJ t21;rw[At hs,sb];generalize Lib.cut s [58,58]=c;obtain⟨a,b,x⟩:=c;cases x
 ·rfl
 ·simp only[tR,sb,aRj,aSn];by_cases h:a=([115,116,97,116,105,99]:av)
  ·rw[At h,h];simp
  ·rw[As h];cases good a<;>simp [h]
theorem contains_eq (s:av) (hs:s.length<4294967281):nK s [60,63]=some (decide (0<=Lib.index s [60,63])):=At hs
def rY (k m:Int):Bool:=
 if k=1 then decide (0<=m/\m<=1000000000)else if k=3 then decide (0<=m/\m<=2)else if k=9 then decide (1<=m/\m<=2)else if k=10 then decide (1<=m/\m<=15)
 else if k=54 then decide (0<=m/\m<=1)else if k=55 then decide (0<=m/\m<=3)else m==0
def nmK:List Int:=[4,8,17,18,20,40,44,49,50,51,52,53,54,55]
def tU (k:Int) (t:av):Bool:=
 if k=2\/k=47 then decide ((t.length:Int)<=400)else if nmK.contains k then good t else if k=22 then good t||t==([115,116,97,116,105,99]:av)else if k=21 then t21 t
 else if k=31 then t31 t else t==([]:av)
def kds:List Int:=[1,2,3,4,8,9,10,17,18,20,21,22,31,40,44,47,49,50,51,52,53,54,55]
theorem Bz (k m:Int) (t:av) (c:List ae) (hs:t.length<=4611686018427387904):eW (.mk k m t c)=some (rY k m,tU k t):=by
 unfold eW;simp only[ae.tV,ae.uU,ae.mG,ae.kU];by_cases h:k∈kds
 ·simp only[kds,aRo,aTo,aSY]at h;rcases h with h | h | h | h | h | h | h | h | h | h | h | h | h | h | h | h | h | h | h | h | h | h | h<;>subst h
  case inr.inr.inr.inr.inr.inr.inr.inr.inr.inr.inl=>
   obtain⟨a,b,d,e2⟩:=abp t hs;simp only[Int.reduceEq,aRc,aRj,d,sb,Sw,rY,tU,nmK,Int.reduceBEq,atX,e2];simp only[aRM,aRN,Int.reduceBEq,aRH,aSY,atX,aRc];cases good a
   ·by_cases q:a=([115,116,97,116,105,99]:av)
    ·rw[As aUG,At q,sb,q];rfl
    ·rw[As aUG,As q,sb];simp [q]
   ·rw[At rfl,sb];rfl
  case inr.inr.inr.inr.inr.inr.inr.inr.inr.inr.inr.inr.inl=>
   have:=aqp (.mk 31 m t c) hs;simp only[ae.uU,ae.mG]at this;simp only[Int.reduceEq,aRc,sb,Int.reduceBEq,atX,aRj,this];rfl
  all_goals
   simp only[Int.reduceEq,aRc,aRj,sC,sb,Sw,rY,tU,nmK,Int.reduceBEq,atX,aSY,false_or,or_true,true_or];try simp only[aRM,aRN,Int.reduceBEq,aRH,aSg,aSl,aSY,atX,aRc,aRj]
   try (cases good t<;>rfl)
 ·simp only[kds,aRo,aTo,aSY,not_or]at h;obtain⟨_,_,_,_,_,_,_,_,_,_,_,_,_,_,_,_,_,_,_,_,_,_,_⟩:=h;simp only[*,aRc,sb,rY,tU,nmK,aRM,aRN,an,aRZ,aRi,atX,or_self,aSY,ne_eq,not_false_eq_true,aTj]
def Ho (b:Bool):Unit ⊕ Bool:=bif b then .inl ()else .inr false
def ob2 (b:Bool):Unit ⊕ (Unit ⊕ Bool):=bif b then .inl ()else .inr (.inr false)
mutual
def wv:ae->Bool | .mk k _ _ a=>if k=7/\a.length=2 then aI5 a else k==4||k==8
def aI5:List ae->Bool | []=>false | x::_=>wv x
end
section
variable (E S:ae->Bool)
def bl (x:ae):Bool:=x.ah==48&&S x
def SA (x:ae):Bool:=x.ah==6&&(x.aE==0&&(x.al==([]:av)&&(decide (1<=(x.af.length:Int)/\(x.af.length:Int)<=2)&&x.af.all E)))
def CR (a:Bool):Bool->List ae->Bool
 | _,[]=>true
 | b,x::r=>((x.ah==25&&a)||(x.ah==24&&!b))&&(decide (0<=x.aE/\x.aE<=1)&&(good x.al&&((x.af.length:Int)==0&&CR a (b||x.ah==25) r)))
def fU (a:Bool) (b:List ae):Bool:=match b.getLast? with
 | none=>false
 | some x=>CR a false b.dropLast&&bl S x
def gE (k:Int) (d:List ae):Bool:=
 if[1,2,3,4].contains k then(d.length:Int)==0
 else if k=5 then d.all (SA E)
 else if[8,9].contains k then(match d with | [a]=>E a | _=>false)
 else if[7,10,11,12,13].contains k then(match d with | [a,b]=>E a&&E b | _=>false)
 else if k=14 then(match d with | [a,b,c]=>E a&&(E b&&E c) | _=>false)
 else if[15,16].contains k then(match d with | [a,b]=>wv a&&(E a&&E b) | _=>false)
 else if k=17 then(match d with | [a]=>a.ah==4&&E a | _=>false)
 else if[18,21,22].contains k then d.all E
 else if[19,20].contains k then(match d with | []=>false | a::r=>E a&&r.all E)
 else if k=23 then fU S true d else false
def fE (n:ae):Bool:=rY n.ah n.aE&&(tU n.ah n.al&&gE E S n.ah n.af)
def cat (x:ae):Bool:=x.ah==44&&(x.aE==0&&(good x.al&&(match x.af with | [a,b]=>a.ah==4&&(E a&&bl S b) | _=>false)))
def fin (x:ae):Bool:=x.ah==45&&(x.aE==0&&(x.al==([]:av)&&(match x.af with | [a]=>bl S a | _=>false)))
def gS (k:Int) (e:List ae):Bool:=
 if[31,37,38,40,47].contains k then(e.length:Int)==0
 else if[32,33,42].contains k then(match e with | [a]=>E a | _=>false)
 else if k=39 then(match e with | []=>true | [a]=>E a | _=>false)
 else if k=41 then(match e with | [a]=>wv a&&E a | _=>false)
 else if k=34 then(match e with | [a,b]=>E a&&bl S b | [a,b,c]=>E a&&(bl S b&&bl S c) | _=>false)
 else if k=35 then(match e with | [a,b]=>E a&&bl S b | _=>false)
 else if k=36 then(match e with | [a,b,c]=>E a&&(E b&&(b.ah==4&&bl S c)) | [a,b,c,d]=>E a&&(E b&&(E c&&(b.ah==4&&(c.ah==4&&bl S d)))) | _=>false)
 else if k=46 then(match e with | [a]=>E a | [a,b]=>E a&&(E b&&a.ah==4) | _=>false)
 else if k=48 then e.all S
 else if k=43 then(match e with | [a,b]=>bl S a&&(cat E S b||fin S b) | [a,b,c]=>bl S a&&(cat E S b&&fin S c) | _=>false)else false
def fS (n:ae):Bool:=rY n.ah n.aE&&(tU n.ah n.al&&gS E S n.ah n.af)
end
theorem eG {a:ae} {r:List ae}:idx (a::r) 0=some a:=by unfold idx;rw[At ⟨by omega,by simp⟩];rfl
theorem pR {a b:ae} {r:List ae}:idx (a::b::r) 1=some b:=by unfold idx;rw[At ⟨by omega,by simp;omega⟩];rfl
theorem Aj {a b c:ae} {r:List ae}:idx (a::b::c::r) 2=some c:=by unfold idx;rw[At ⟨by omega,by simp;omega⟩];rfl
theorem akb {a b c d:ae} {r:List ae}:idx (a::b::c::d::r) 3=some d:=by unfold idx;rw[At ⟨by omega,by simp;omega⟩];rfl
section
variable {E S:ae->Bool}
theorem SB (l:List ae) (h:∀x∈l,bH x=some (E x)) (a:l.length<4611686018427387904):∀f i:Nat,l.length<=i+f->lH l (i:Int)=some (Ho ((l.drop i).all E))
 | f,i,hf=>by
  rw[lH];by_cases hc:i<l.length
  ·obtain⟨g,rfl⟩:∃g,f=g+1:=⟨f - 1,by omega⟩;rw[At aUE,dj hc,sb,h _ (aRr hc),sb,ca aUE,SB l h a g (i+1) aUE,aRl hc,aRn];cases E l[i]<;>rfl
  ·rw[As aUE,aRd aUE];rfl
theorem Ak (l:List ae) (h:∀x∈l,bH x=some (E x)) (a:l.length<4611686018427387904):gl l 0=some (l.all E):=by
 have:=SB l h a l.length 0 aUE;rw[show((0:Nat):Int)=0 from rfl,aRk]at this;rw[gl,this,sb];cases l.all E<;>rfl
theorem SC (n:ae) (h:∀x∈n.af,eo x=some (S x)) (a:n.af.length<4611686018427387904):∀f i:Nat,n.af.length<=i+f->kP n (i:Int)=some (Ho ((n.af.drop i).all S))
 | f,i,hf=>by
  rw[kP];by_cases hc:i<n.af.length
  ·obtain⟨g,rfl⟩:∃g,f=g+1:=⟨f - 1,by omega⟩;rw[At aUE,dj hc,sb,h _ (aRr hc),sb,ca aUE,SC n h a g (i+1) aUE,aRl hc,aRn];cases S n.af[i]<;>rfl
  ·rw[As aUE,aRd aUE];rfl
theorem SD (n:ae) (h:∀x∈n.af,eo x=some (S x)) (b:n.af.length<4611686018427387904):cx n=some (n.ah==48&&(n.aE==0&&(n.al==([]:av)&&n.af.all S))):=by
 have:=SC n h b n.af.length 0 aUE;rw[show((0:Nat):Int)=0 from rfl,aRk]at this;rw[cx,this,sb];by_cases h1:n.ah=48
 ·rw[At h1,h1];by_cases h2:n.aE=0
  ·rw[At h2,h2];by_cases a:n.al=([]:av)
   ·rw[At a,a];cases n.af.all S<;>rfl
   ·rw[As a];simp [a]
  ·rw[As h2];simp [h2]
 ·rw[As h1];simp [h1]
theorem aI6 (n:ae) (h:n.ah=48):fS E S n=(n.aE==0&&(n.al==([]:av)&&n.af.all S)):=by
 unfold fS gS rY tU nmK;rw[h];rfl
theorem sbl (n:ae) (h:∀x∈n.af,eo x=some (S x)) (a:n.af.length<4611686018427387904) (b:S n=fS E S n):cx n=some (bl S n):=by
 rw[SD n h a,bl];by_cases h1:n.ah=48
 ·rw[b,aI6 n h1]
 ·rw[an.2 h1];rfl
theorem abq (n:ae) (h:∀x∈n.af,∀y∈x.af,bH y=some (E y)) (b:∀x∈n.af,x.af.length<4611686018427387904) (c:n.af.length<4611686018427387904):∀f i:Nat,n.af.length<=i+f->lG n (i:Int)=some (ob2 ((n.af.drop i).all (SA E)))
 | f,i,hf=>by
  rw[lG];by_cases hc:i<n.af.length
  ·obtain⟨g,rfl⟩:∃g,f=g+1:=⟨f - 1,by omega⟩;rw[At aUE,dj hc,sb,sC,sb,Ak _ (h _ (aRr hc)) (b _ (aRr hc)),sb,ca aUE,abq n h b c g (i+1) aUE,aRl hc,aRn];generalize n.af[i]=x;unfold SA;by_cases h1:x.ah=6
   ·by_cases h2:x.aE=0
    ·by_cases a:x.al=([]:av)
     ·rw[At h1,At h2,At a,h1,h2,a];cases decide (1<=(x.af.length:Int)/\(x.af.length:Int)<=2)
      ·rfl
      ·cases x.af.all E<;>rfl
     ·rw[At h1,At h2,As a,an.2 a,aSj,aRF,aRF];rfl
    ·rw[At h1,As h2,an.2 h2,aSj,aRF];rfl
   ·rw[As h1,an.2 h1];rfl
  ·rw[As aUE,aRd aUE];rfl
theorem tW {l:List ae} {x:ae}:idx (l++[x]) (l.length:Int)=some x:=by
 rw[dj aUG];simp
theorem SE (a:Bool) (l:List ae) (z:ae) (d:l.length<4611686018427387904):∀(f i:Nat) (b:Bool),l.length<=i+f->gP (l++[z]) a b (i:Int)=some (Ho (CR a b (l.drop i)))
 | f,i,b,hf=>by
  rw[gP,kj (x:=(((l++[z]).length:Int)) - 1) (n:=l.length) aUG aUE];by_cases hc:i<l.length
  ·obtain⟨g,rfl⟩:∃g,f=g+1:=⟨f - 1,by omega⟩;have hd:(l++[z])[i]'aUP=l[i]:=aSH hc;have e:=λj=>SE a l z d g (i+1) j aUE;rw[At aUE,dj aUP,sb,hd,aRl hc];simp only[sC,sb,Sw,ca (show i<9223372036854775807 by omega),e,CR];generalize l[i]=x
   have e0:(if(x.af.length:Int)>0 then(some (.inr false):Option (Unit ⊕ Bool))else some (Ho (CR a (b||x.ah==25) (l.drop (i+1)))))=some (Ho ((x.af.length:Int)==0&&CR a (b||x.ah==25) (l.drop (i+1)))):=by
    by_cases h:(x.af.length:Int)>0
    ·rw[At h,an.2 aUE];rfl
    ·rw[As h,show(x.af.length:Int)=0 by omega];rfl
   by_cases h1:x.ah=25
   ·rw[At h1,sb,As aUE,At h1];cases a
    ·rw[h1];rfl
    ·rw[h1]at e0;simp only[Int.reduceBEq,aSg,aSI]at e0;rw[h1];cases decide (0<=x.aE/\x.aE<=1)
     ·rfl
     ·cases good x.al
      ·rfl
      ·simpa using e0
   ·rw[As h1,sb];have c:(x.ah==25)=false:=an.2 h1;rw[c,aRH]at e0;rw[c,aRH,aSj,aRy];by_cases h2:x.ah=24
    ·rw[At h2,h2];cases b
     ·cases decide (0<=x.aE/\x.aE<=1)
      ·rfl
      ·cases good x.al
       ·rfl
       ·simpa using e0
     ·rw[At rfl,As aUF];rfl
    ·rw[As h2,As h1,an.2 h2];rfl
  ·rw[As aUE,aRd aUE];rfl
theorem Jz (a:Bool) (b:List ae) (d:b.length<4611686018427387904) (e:∀x∈b,cx x=some (bl S x)):kC b a=some (fU S a b):=by
 rcases aSK b with rfl | ⟨l,z,rfl⟩
 ·rw[kC,gP];rfl
 ·rw[aSL]at d e ⊢;have c:l.length<4611686018427387904:=by simp at d;omega
  have:=SE a l z c l.length 0 false aUE;rw[show((0:Nat):Int)=0 from rfl,aRk]at this;rw[kC,this,sb,kj (x:=(((l++[z]).length:Int)) - 1) (n:=l.length) aUG aUE,fU,aTc,aTd];show _=some (CR a false l&&bl S z);cases CR a false l
  ·rfl
  ·show(if(l.length:Int)>=0 then _ else _)=_;rw[At aUE,tW,sb,e z aUG,sb];rfl
end
mutual
theorem stg:∀(k m:Int) (t:av) (e:List ae),∃a b c d,km k m t e=some (a,b,c,d)/\wv (.mk k m t e)=(a==4||a==8)
 | k,m,t,e=>by
  rw[km,wv];by_cases h:k=7
  ·by_cases h2:e.length=2
   ·rw[At h,At aUE,At ⟨h,h2⟩]
    match e,h2 with
    | [.mk k1 g t1 f,y],_=>rw[eG,sb];exact stg k1 g t1 f
   ·rw[At h,As aUE,As (λq=>h2 q.2)];exact⟨_,_,_,_,rfl,rfl⟩
  ·rw[As h,As (λq=>h q.1)];exact⟨_,_,_,_,rfl,rfl⟩
end
theorem qk (x:ae):gL x=some (wv x):=by
 cases x with
 | mk k m t e=>
  obtain⟨a,b,c,d,h1,h2⟩:=stg k m t e;unfold gL;simp only[ae.tV,ae.uU,ae.mG,ae.kU,h1,sb];rw[h2];by_cases h:a=4
  ·rw[At h,h];rfl
  ·rw[As h,an.2 h,aRy]
section
variable {E S:ae->Bool}
theorem afm (k m:Int) (t:av) (e:List ae) (w:t.length<=4611686018427387904) (g:e.length<4611686018427387904) (z:∀x∈e,x.af.length<4611686018427387904)
  (f:∀x∈e,bH x=some (E x)) (A:∀x∈e,∀y∈x.af,bH y=some (E y)) (B:∀x∈e,cx x=some (bl S x)):bH (.mk k m t e)=some (fE E S (.mk k m t e)):=by
 rw[bH,Bz _ _ _ _ w,sb,fE];simp only[ae.tV,ae.uU,ae.mG,ae.kU];cases rY k m
 ·rfl
 cases tU k t
 ·rfl
 rw[At rfl,At rfl];show _=some (gE E S k e);have he:=Ak e f g;by_cases N:1<=k/\k<=23
 ·rcases(by omega:k=1\/k=2\/k=3\/k=4\/k=5\/k=6\/k=7\/k=8\/k=9\/k=10\/k=11\/k=12\/k=13\/k=14\/k=15\/k=16\/k=17\/k=18\/k=19\/k=20\/k=21\/k=22\/k=23)with h | h | h | h | h | h | h | h | h | h | h | h | h | h | h | h | h | h | h | h | h | h | h<;>subst h<;>
  simp only[gE,aRM,aRN,Int.reduceEq,Int.reduceBEq,aRj,aRc,aRH,aSg,aSl,aRy,atX,sb,he,qk]<;>try rfl
  case inr.inr.inr.inr.inl=>
   have h0:=abq (.mk 5 m t e) A z g e.length 0 (by show e.length<=_;omega);rw[show((0:Nat):Int)=0 from rfl,aRk,ae.kU]at h0;rw[h0,sb];cases e.all (SA E)<;>rfl
  all_goals
   first
    | (rw[Jz _ _ g B];rfl)
    | (match e,f with
     | [],_=>first | rfl | (rw[As aUF]) | (rw[As aUF];rfl)
     | [a],f=>simp only[eG,pR,Aj,sb,f a aUG,aRn,aRU,aRE,so,An];first | done | rfl | (rw[At aUF];done) | (rw[As aUF];done) | (by_cases q:a.ah=4<;>simp [q];done)
     | [a,b],f=>simp only[eG,pR,Aj,sb,f a aUG,f b aUG,aRn,aRU,aRE,so,An];first | done | rfl | (rw[At aUF];done) | (rw[As aUF];done) | (rw[At aUF];cases wv a<;>rfl)
     | [a,b,c],f=>simp only[so,An,aRn,aRU,aRE];first | done | rfl | (rw[At aUF];done) | (rw[As aUF];done)
     | a::b::c::d::r,f=>simp only[so,aRn];first | done | rfl | (rw[At aUE];rfl) | (rw[As aUE];done) | (rw[As aUE];rfl))
 ·have h1:¬k=1:=by omega
  have h2:¬k=2:=by omega
  have C:¬k=3:=by omega
  have D:¬k=4:=by omega
  have O:¬k=5:=by omega
  have F:¬k=7:=by omega
  have G:¬k=8:=by omega
  have H:¬k=9:=by omega
  have I:¬k=10:=by omega
  have J:¬k=11:=by omega
  have i:¬k=12:=by omega
  have j:¬k=13:=by omega
  have K:¬k=14:=by omega
  have l:¬k=15:=by omega
  have n:¬k=16:=by omega
  have L:¬k=17:=by omega
  have o:¬k=18:=by omega
  have p:¬k=19:=by omega
  have s:¬k=20:=by omega
  have u:¬k=21:=by omega
  have v:¬k=22:=by omega
  have M:¬k=23:=by omega
  simp only[gE,aRM,aRN,aRj,aRc,aRH,aSg,aSl,aRy,atX,sb, *,an.2 h1,an.2 h2,an.2 C,an.2 D,an.2 F,an.2 G,an.2 H,an.2 I,an.2 J,an.2 i,an.2 j,an.2 l,an.2 n,an.2 o,an.2 p,an.2 s,an.2 u,an.2 v]
end
theorem BA (x:ae) (hs:x.al.length<=4611686018427387904):eW x=some (rY x.ah x.aE,tU x.ah x.al):=by
 cases x with
 | mk k m t a=>exact Bz k m t a hs
section
variable {E S:ae->Bool}
theorem aqq (x:ae) (h:x.ah=44):cat E S x=(rY 44 x.aE&&(tU 44 x.al&&(match x.af with | [a,b]=>a.ah==4&&(E a&&bl S b) | _=>false))):=by
 unfold cat;rw[h];rfl
theorem aqr (x:ae) (h:x.ah=45):fin S x=(rY 45 x.aE&&(tU 45 x.al&&(match x.af with | [a]=>bl S a | _=>false))):=by
 unfold fin;rw[h];rfl
theorem Es (n:ae) (i:Nat) (hi:i<n.af.length) (k:n.af.length<4611686018427387904) (j:n.af[i].al.length<=4611686018427387904)
  (g:∀y∈n.af[i].af,bH y=some (E y)) (e:∀y∈n.af[i].af,cx y=some (bl S y)):
  fM n (i:Int)=bif ((decide (i=1)&&cat E S n.af[i])||(decide (i+1=n.af.length)&&fin S n.af[i]))then fM n ((i+1:Nat):Int)else some (.inr (.inr false)):=by
 rw[fM,At aUE,dj hi,sb,BA _ j,sb,ca aUE,kj (x:=(n.af.length:Int) - 1) (n:=n.af.length - 1) aUE aUE];generalize n.af[i]=x at g e ⊢;show(Option.bind _ _)=_;by_cases f:x.ah=44
 ·rw[At f,f,aqq x f,show fin S x=false by unfold fin;rw[f];rfl,aRF,aRH];by_cases h1:i=1
  ·rw[At aUE,aSa h1,aSn]
   match h:x.af,g,e with
   | [],_,_=>cases rY 44 x.aE<;>cases tU 44 x.al<;>rfl
   | [a],_,_=>cases rY 44 x.aE<;>cases tU 44 x.al<;>rfl
   | a::b::c::r,_,_=>
    rw[As aUR];cases rY 44 x.aE<;>cases tU 44 x.al<;>rfl
   | [a,b],g,e=>
    rw[At (by rfl),eG,pR,sb,sb,sb,g a aUG,e b aUG,sb,sb];show _=(bif (rY 44 x.aE&&(tU 44 x.al&&(a.ah==4&&(E a&&bl S b))))then _ else _);by_cases d:a.ah=4
    ·rw[At d,d];cases rY 44 x.aE<;>cases tU 44 x.al<;>cases E a<;>cases bl S b<;>rfl
    ·rw[As d,an.2 d];cases rY 44 x.aE<;>cases tU 44 x.al<;>rfl
  ·rw[As aUE,aRA h1,aSj];cases rY 44 x.aE<;>cases tU 44 x.al<;>rfl
 ·by_cases d:x.ah=45
  ·rw[As f,d,aqr x d,show cat E S x=false by unfold cat;rw[d];rfl,aRF,aRy];by_cases h1:i+1=n.af.length
   ·rw[At rfl,At aUE,aSa h1,aSn]
    match h:x.af,g,e with
    | [],_,_=>cases rY 45 x.aE<;>cases tU 45 x.al<;>rfl
    | a::b::r,_,_=>
     rw[As aUR];cases rY 45 x.aE<;>cases tU 45 x.al<;>rfl
    | [a],g,e=>
     rw[At (by rfl),eG,sb,e a aUG,sb];show _=(bif (rY 45 x.aE&&(tU 45 x.al&&bl S a))then _ else _);cases rY 45 x.aE<;>cases tU 45 x.al<;>cases bl S a<;>rfl
   ·rw[At rfl,As aUE,aRA h1,aSj];cases rY 45 x.aE<;>cases tU 45 x.al<;>rfl
  ·rw[As f,As d,show cat E S x=false by unfold cat;rw[an.2 f];rfl,show fin S x=false by unfold fin;rw[an.2 d];rfl,aRF,aRF];cases rY x.ah x.aE<;>cases tU x.ah x.al<;>rfl
theorem SF (n:ae) (i:Nat) (hi:i=n.af.length):fM n (i:Int)=some (.inl ()):=by
 rw[fM,As aUE]
theorem afn (k m:Int) (t:av) (g:List ae) (D:t.length<=4611686018427387904) (n:g.length<4611686018427387904) (i:∀x∈g,x.al.length<=4611686018427387904)
  (l:∀x∈g,bH x=some (E x)) (o:∀x∈g,∀y∈x.af,bH y=some (E y)) (f:∀x∈g,cx x=some (bl S x)) (j:∀x∈g,∀y∈x.af,cx y=some (bl S y))
  (p:∀x∈g,eo x=some (S x)):eo (.mk k m t g)=some (fS E S (.mk k m t g)):=by
 rw[eo,Bz _ _ _ _ D,sb,fS];simp only[ae.tV,ae.uU,ae.mG,ae.kU];cases F:rY k m
 ·rfl
 cases G:tU k t
 ·rfl
 rw[At rfl,At rfl];show _=some (gS E S k g);have he:=Ak g l n;by_cases R:31<=k/\k<=48
 ·rcases(by omega:k=31\/k=32\/k=33\/k=34\/k=35\/k=36\/k=37\/k=38\/k=39\/k=40\/k=41\/k=42\/k=43\/k=44\/k=45\/k=46\/k=47\/k=48)with h | h | h | h | h | h | h | h | h | h | h | h | h | h | h | h | h | h<;>subst h<;>
  simp only[gS,aRM,aRN,Int.reduceEq,Int.reduceBEq,aRj,aRc,aRH,aSg,aSl,aRy,atX,sb,he,qk,sC]<;>try rfl
  case inr.inr.inr.inr.inr.inr.inr.inr.inr.inr.inr.inr.inl=>
   match g,f,j,o,i,n with
   | [],_,_,_,_,_=>rfl
   | [a],_,_,_,_,_=>rfl
   | [a,b],f,j,o,i,n=>
    have h1:=Es (E:=E) (S:=S) (.mk 43 m t [a,b]) 1 aUG n (i b aUG) (o b aUG) (j b aUG);rw[SF _ 2 rfl]at h1;simp only[eG,sb,f a aUG];rw[show(((1:Nat):Int))=1 from rfl]at h1;rw[h1];simp only[ae.kU,so,An,List.getElem_cons_succ,aSW,decide_true,aSn];cases bl S a<;>cases cat E S b<;>cases fin S b<;>rfl
   | [a,b,c],f,j,o,i,n=>
    have h1:=Es (E:=E) (S:=S) (.mk 43 m t [a,b,c]) 1 aUG n (i b aUG) (o b aUG) (j b aUG);have h2:=Es (E:=E) (S:=S) (.mk 43 m t [a,b,c]) 2 aUG n (i c aUG) (o c aUG) (j c aUG);rw[SF _ 3 rfl]at h2;rw[h2]at h1;simp only[eG,sb,f a aUG];rw[show(((1:Nat):Int))=1 from rfl]at h1;rw[h1];simp only[ae.kU,so,An,List.getElem_cons_succ,aSW,decide_true,aSn];cases bl S a<;>cases cat E S b<;>cases fin S b<;>cases fin S c<;>rfl
   | a::b::c::d::r,_,_,_,_,_=>
    rw[aRA aUR];rfl
  case inr.inr.inr.inr.inr.inr.inr.inr.inr.inr.inr.inr.inr.inr.inr.inr.inr=>
   have h0:=SD (.mk 48 m t g) p n;simp only[ae.tV,ae.uU,ae.mG,ae.kU]at h0;have H:(m==0)=true:=F;have e2:(t==([]:av))=true:=G;rw[H,e2]at h0;rw[h0];rfl
  all_goals
   match g,l,f,p with
   | [],_,_,_=>first | rfl | (rw[As aUF];done) | (rw[As aUF];rfl) | (rw[At aUF];rfl)
   | [a],l,f,p=>
    simp only[eG,sb,l a aUG,aRn,aRU,aRE,so,An];first | done | rfl | (cases E a<;>rfl) | (cases wv a<;>rfl) | (cases wv a<;>cases E a<;>rfl)
   | [a,b],l,f,p=>
    simp only[eG,pR,sb,l a aUG,l b aUG,f b aUG,aRn,aRU,aRE,so,An]
    first
     | done
     | rfl
     | (rw[show bq (((0+1+1:Nat):Int) - 1)=1 from rfl,pR,sb,f b aUG,sb];cases E a<;>cases bl S b<;>rfl)
     | (cases E a<;>cases bl S b<;>rfl)
     | (cases E a<;>cases E b<;>rfl)
   | [a,b,c],l,f,p=>
    try dsimp only
    first
     | rfl
     | (rw[show bq ((([a,b,c]:List ae).length:Int) - 1)=2 from rfl,Aj,eG,pR,sb,sb,sb,l a aUG,f b aUG,f c aUG,sb,sb,sb];cases E a<;>cases bl S b<;>cases bl S c<;>rfl)
     | (
      rw[show bq ((([a,b,c]:List ae).length:Int) - 1)=2 from rfl,show bq ((([a,b,c]:List ae).length:Int) - 2)=1 from rfl,Aj,pR,sb,sb,sb,f c aUG,sb,show Ny [a,b,c] 2=some [a,b]from rfl,sb,Ak [a,b] (λx h=>l x (by simp at h ⊢;rcases h with h | h<;>simp [h])) aUG];by_cases q:b.ah=4
      ·rw[At q,q];simp only[aRn,aRU,aRE];cases E a<;>cases E b<;>cases bl S c<;>rfl
      ·rw[As q,an.2 q];simp only[aRn,aRU,aRE];cases E a<;>cases E b<;>cases bl S c<;>rfl)
   | [a,b,c,d],l,f,p=>
    try dsimp only
    first
     | rfl
     | (
      rw[show bq ((([a,b,c,d]:List ae).length:Int) - 1)=3 from rfl,show bq ((([a,b,c,d]:List ae).length:Int) - 2)=2 from rfl,akb,Aj,pR,sb,sb,sb,f d aUG,sb,show Ny [a,b,c,d] 3=some [a,b,c]from rfl,sb,Ak [a,b,c] (λx h=>l x (by simp at h ⊢;rcases h with h | h | h<;>simp [h])) aUG];simp only[aRn,aRU,aRE];by_cases q:b.ah=4
      ·by_cases s:c.ah=4
       ·rw[At q,At s,q,s];cases E a<;>cases E b<;>cases E c<;>cases bl S d<;>rfl
       ·rw[At q,As s,q,an.2 s];cases E a<;>cases E b<;>cases E c<;>cases bl S d<;>rfl
      ·rw[As q,an.2 q];cases E a<;>cases E b<;>cases E c<;>cases bl S d<;>rfl)
   | a::b::c::d::e::r,_,_,_=>
    first
     | rfl
     | (rw[As aUR];done)
     | (rw[As aUR];rfl)
     | (rw[aRA aUR];rfl)
 ·have u:¬k=31:=by omega
  have v:¬k=32:=by omega
  have w:¬k=33:=by omega
  have I:¬k=34:=by omega
  have J:¬k=35:=by omega
  have K:¬k=36:=by omega
  have z:¬k=37:=by omega
  have A:¬k=38:=by omega
  have L:¬k=39:=by omega
  have M:¬k=40:=by omega
  have N:¬k=41:=by omega
  have B:¬k=42:=by omega
  have O:¬k=43:=by omega
  have P:¬k=46:=by omega
  have C:¬k=47:=by omega
  have Q:¬k=48:=by omega
  simp only[gS,aRM,aRN,aRj,aRc,aRH,aSg,aSl,aRy,atX,sb, *,an.2 u,an.2 v,an.2 w,an.2 z,an.2 A,an.2 M,an.2 B,an.2 C]
end
mutual
def wt:ae->Nat | .mk _ _ t k=>t.length+k.length+FI k
def FI:List ae->Nat | []=>0 | x::r=>wt x+FI r
end
theorem DO (n:ae):wt n=n.al.length+n.af.length+FI n.af:=by cases n;rfl
theorem SG:∀(l:List ae) (x:ae),x∈l->wt x<=FI l
 | y::r,x,h=>by
  rw[FI];rcases aRo.1 h with h | h
  ·subst h;omega
  ·have:=SG r x h;omega
theorem SH:∀(l:List ae) (x:ae),x∈l->sz x<=jT l
 | y::r,x,h=>by
  rw[jT];rcases aRo.1 h with h | h
  ·subst h;omega
  ·have:=SH r x h;omega
mutual
theorem akc:∀n:ae,sz n<=1+wt n
 | .mk _ _ t k=>by have:=SI k;rw[sz,wt];omega
theorem SI:∀l:List ae,jT l<=l.length+FI l
 | []=>Of _
 | x::r=>by have:=akc x;have:=SI r;rw[jT,FI,so];omega
end
def vE (n:ae):Bool:=(bH n).getD false
def vS (n:ae):Bool:=(eo n).getD false
theorem kO {n x:ae} (h:x∈n.af):sz x<sz n:=by have:=SH _ _ h;have:=jU n;omega
theorem jN {n x:ae} (h:x∈n.af):wt x<=wt n:=by have:=SG _ _ h;have:=DO n;omega
theorem Et:∀(N:Nat) (n:ae),sz n<N->wt n<=134217728->(bH n=some (vE n)/\vE n=fE vE vS n)/\(eo n=some (vS n)/\vS n=fS vE vS n)
 | 0,n,h,_=>by omega
 | N+1,n,h,hw=>by
  have b:∀x∈n.af,_:=λx hx=>Et N x aVu (by have:=jN hx;omega);have c:∀x∈n.af,∀y∈x.af,_:=λx hx y hy=>Et N y aVc aVq;have iT:∀x∈n.af,∀y∈x.af,∀z∈y.af,_:=λx hx y hy z a=>Et N z (by have:=kO hx;have:=kO hy;have:=kO a;omega) (by have:=jN hx;have:=jN hy;have:=jN a;omega);have bd:∀x:ae,wt x<=134217728->x.al.length<=4611686018427387904/\x.af.length<4611686018427387904:=λx hx=>by have:=DO x;omega
  have w1:∀x∈n.af,wt x<=134217728:=λx hx=>by have:=jN hx;omega
  have o:∀x∈n.af,∀y∈x.af,wt y<=134217728:=λx hx y hy=>by have:=jN hx;have:=jN hy;omega
  have f:∀x∈n.af,bH x=some (vE x):=λx hx=>(b x hx).1.1;have g:∀x∈n.af,∀y∈x.af,bH y=some (vE y):=λx hx y hy=>(c x hx y hy).1.1;have p:∀x∈n.af,eo x=some (vS x):=λx hx=>(b x hx).2.1;have i:∀x∈n.af,cx x=some (bl vS x):=λx hx=>sbl x (λy hy=>(c x hx y hy).2.1) (bd x (w1 x hx)).2 (b x hx).2.2;have d:∀x∈n.af,∀y∈x.af,cx y=some (bl vS y):=λx hx y hy=>sbl y (λz a=>(iT x hx y hy z a).2.1) (bd y (o x hx y hy)).2 (c x hx y hy).2.2
  have j:bH n=some (fE vE vS n):=by
   cases n with
   | mk k m t e=>exact afm k m t e (bd _ hw).1 (bd _ hw).2 (λx hx=>(bd x (w1 x hx)).2) f g i
  have e2:eo n=some (fS vE vS n):=by
   cases n with
   | mk k m t e=>exact afn k m t e (bd _ hw).1 (bd _ hw).2 (λx hx=>(bd x (w1 x hx)).1) f g i d p
  have l:vE n=fE vE vS n:=by rw[vE,j];rfl
  have g2:vS n=fS vE vS n:=by rw[vS,e2];rfl
  exact⟨⟨by rw[j,l],l⟩,⟨by rw[e2,g2],g2⟩⟩
theorem spE {n:ae} (h:wt n<=134217728):bH n=some (vE n):=(Et _ n (aRh _) h).1.1
theorem spS {n:ae} (h:wt n<=134217728):eo n=some (vS n):=(Et _ n (aRh _) h).2.1
theorem Hp {n:ae} (h:wt n<=134217728):vE n=fE vE vS n:=(Et _ n (aRh _) h).1.2
theorem Mh {n:ae} (h:wt n<=134217728):vS n=fS vE vS n:=(Et _ n (aRh _) h).2.2
theorem sB {n:ae} (h:wt n<=134217728):cx n=some (bl vS n):=sbl n (λy hy=>spS (by have:=jN hy;omega)) (by have:=DO n;omega) (Mh h)
def sF (a0:av) (a:Int):Option (Int):=if a<(a0.length:Int)then qO a0 a [60,63]>>=λb=>if b then some a else sF a0 (bq (a+1))else some a partial_fixpoint
def pT (a0:av) (a:Int):Option ((Unit) ⊕ Int):=if a<=15 then fN a>>=λb=>if b=a0 then some (.inr a)else pT a0 (bq (a+1))else some (.inl ()) partial_fixpoint
def lV (a0:av):Option (Int):=((pT a0 1:Option ((Unit) ⊕ Int))>>=λa=>match a with | .inr r=>some r | .inl _=>some 0)
def cR (a0:aP):Option rn:=if a0.ax<0 then if a0.fI<(a0.fT.length:Int)then idx a0.fT a0.fI>>=λa=>some ((ae.mk 0 0 [] []),(aP.mk a0.fT (a0.fT.length:Int) a0.ay a.bF))else some ((ae.mk 0 0 [] []),(aP.mk a0.fT (a0.fT.length:Int) a0.ay a0.ay))else some ((ae.mk 0 0 [] []),(aP.mk a0.fT (a0.fT.length:Int) a0.ay a0.ax))
def bp (a0:aP) (a:Int) (c:Int) (b:av):Option (Bool×aP):=if(bq (a0.fI+a))<(a0.fT.length:Int)then idx a0.fT (bq (a0.fI+a))>>=λd=>if d.ah=c then if b=([]:av)then some (true,a0)else idx a0.fT (bq (a0.fI+a))>>=λe=>some ((e.al==b),a0)else some (false,a0)else some (false,a0)
def az (a0:aP) (c:av):Option (Bool×aP):=bp a0 0 6 c>>=λ(d,a)=>if d then some (true,(aP.mk a.fT (bq (a.fI+1)) a.ay a.ax))else bp a 0 3 c>>=λ(e,b)=>if e then some (true,(aP.mk b.fT (bq (b.fI+1)) b.ay b.ax))else some (false,b)
def aQ (a0:aP) (b:av):Option (aP):=az a0 b>>=λ(c,a)=>if c then some a else cR a>>=λ(e,d)=>some d
def bT (a0:aP) (e:Int):Option (av×aP):=bp a0 0 e []>>=λ(f,a)=>if f then idx a.fT a.fI>>=λb=>dV b.al>>=λc=>if c then idx a.fT (bq ((bq (a.fI+1)) - 1))>>=λd=>some (d.al,(aP.mk a.fT (bq (a.fI+1)) a.ay a.ax))else cR a>>=λ(i,g)=>some ([],g)else cR a>>=λ(j,h)=>some ([],h)
def fu (a0:aP):Option rn:=bT a0 2>>=λ(a,b)=>some ((ae.mk 4 0 a []),b)
def bu (g:Int) (h:List ai) (c:Int) (i:Int) (e:Int) (j:List ae):Option ty7:=if e<0 then(az (aP.mk h c i e) [38]>>=λ(k,b)=>(if k then some (b.fT,b.fI,b.ay,b.ax,1)else some (b.fT,b.fI,b.ay,b.ax,0)):Option ((List ai)×Int×Int×Int×Int))>>=λ(l,m,n,o,f)=>bT (aP.mk l m n o) 2>>=λ(p,q)=>cD 56 j [(ae.mk g f p ([]:List ae))]>>=λd=>az q [44]>>=λ(r,a)=>if r then bu g a.fT a.fI a.ay a.ax d else aQ a [41]>>=λs=>some (.inr (d,s))else some (.inl (h,c,i,e,j)) partial_fixpoint
def de (a0:aP) (f:Int) (g:List ae):Option afo:=aQ a0 [40]>>=λb=>(((if f=24 then az b [41]>>=λ(c,a)=>if c then some (.inr (g,a))else some (.inl (a.fT,a.fI,a.ay,a.ax))else some (.inl (b.fT,b.fI,b.ay,b.ax))):Option (((List ai)×Int×Int×Int) ⊕ afo))>>=λh=>match h with | .inr r=>some r | .inl (i,j,y5,y6)=>((bu f i j y5 y6 g:Option ty7)>>=λd=>match d with | .inr r=>some r | .inl (e,k,l,m,yz)=>some (yz,(aP.mk e k l m))))
mutual
def gW (a0:aP):Option rn:=az a0 [93]>>=λ(b,a)=>if b then some ((ae.mk 5 0 [] []),a)else((dF a.fT a.fI a.ay a.ax ([]:List ae) ([]:List ae):Option ty3)>>=λc=>match c with | .inr r=>some r | .inl (d,y6,e,f,h,g)=>some ((ae.mk 5 0 [] g),(aP.mk d y6 e f))) partial_fixpoint
def aH (a0:aP):Option rn:=if a0.fI>=(a0.fT.length:Int)then cR a0>>=λ(Z,OT)=>some (Z,OT)else idx a0.fT a0.fI>>=λb=>if b.ah=4 then some ((ae.mk 1 b.aE [] []),(aP.mk a0.fT (bq (a0.fI+1)) a0.ay a0.ax))else if b.ah=5 then some ((ae.mk 2 0 b.al []),(aP.mk a0.fT (bq (a0.fI+1)) a0.ay a0.ax))else if b.ah=2 then fu a0>>=λ(g,rV)=>some (g,rV)else az a0 [110,117,108,108]>>=λ(OF,U)=>if OF then some ((ae.mk 3 0 [] []),U)else az U [102,97,108,115,101]>>=λ(DI,V)=>if DI then some ((ae.mk 3 1 [] []),V)else az V [116,114,117,101]>>=λ(uy,W)=>if uy then some ((ae.mk 3 2 [] []),W)else az W [91]>>=λ(II,X)=>if II then gW X>>=λ(FX,h)=>some (FX,h)else az X [40]>>=λ(i,Y)=>if i then aY Y>>=λ(OJ,y)=>aQ y [41]>>=λCB=>some (OJ,CB)else az Y [110,101,119]>>=λ(z,c)=>if z then az c [115,116,97,116,105,99]>>=λ(j,k)=>if j then dx k ([]:List ae)>>=λ(Lc,l)=>some ((ae.mk 22 0 [115,116,97,116,105,99] Lc),l)else bT k 3>>=λ(A,B)=>dx B ([]:List ae)>>=λ(C,m)=>some ((ae.mk 22 0 A C),m)else az c [102,117,110,99,116,105,111,110]>>=λ(D,d)=>if D then de d 24 ([]:List ae)>>=λ(e,n)=>az n [117,115,101]>>=λ(E,f)=>if E then de f 25 e>>=λ(F,NZ)=>bJ NZ>>=λ(G,o)=>cD 56 F [G]>>=λH=>some ((ae.mk 23 0 [] H),o)else bJ f>>=λ(Oo,I)=>cD 56 e [Oo]>>=λJ=>some ((ae.mk 23 0 [] J),I)else((az d [115,116,97,116,105,99]>>=λ(K,a)=>(if K then some (.inl (a.fT,a.fI,a.ay,a.ax,[115,116,97,116,105,99]))else bT a 3>>=λ(p,q)=>bp q 0 6 [40]>>=λ(N1,s)=>if N1 then dx s ([]:List ae)>>=λ(t,L)=>some (.inr ((ae.mk 18 0 p t),L))else some (.inl (s.fT,s.fI,s.ay,s.ax,p))):Option (((List ai)×Int×Int×Int×av) ⊕ rn))>>=λM=>match M with | .inr r=>some r | .inl (N,O,P,Q,R)=>aQ (aP.mk N O P Q) [58,58]>>=λS=>bx R [58,58]>>=λXk=>bT S 3>>=λ(u,v)=>bx Xk u>>=λT=>dx v ([]:List ae)>>=λ(w,x)=>some ((ae.mk 21 0 T w),x)) partial_fixpoint
def iZ (a0:aP):Option rn:=dM a0 true>>=λ(a,b)=>some (a,b) partial_fixpoint
def dM (a0:aP) (d:Bool):Option rn:=aH a0>>=λ(a,b)=>((aW d b.fT b.fI b.ay b.ax ([]:List ae) a.ah a.aE a.al a.af:Option ty1)>>=λc=>match c with | .inr r=>some r | .inl (e,f,g,h,i,j,k,l,m)=>some ((ae.mk j k l m),(aP.mk e f g h))) partial_fixpoint
def dy (a0:aP):Option rn:=az a0 [33]>>=λ(b,a)=>if b then dy a>>=λ(c,d)=>some ((ae.mk 9 1 [] ([c]:List ae)),d)else az a [45]>>=λ(i,h)=>if i then dy h>>=λ(j,e)=>some ((ae.mk 9 2 [] ([j]:List ae)),e)else iZ h>>=λ(f,g)=>some (f,g) partial_fixpoint
def bI (a0:aP) (c:Int):Option rn:=if c=11 then dy a0>>=λ(d,e)=>some (d,e)else bI a0 (bq (c+1))>>=λ(a,b)=>((aG c b.fT b.fI b.ay b.ax ([]:List ae) a.ah a.aE a.al a.af:Option ty1)>>=λf=>match f with | .inr r=>some r | .inl (g,h,i,j,n,k,l,o,m)=>some ((ae.mk k l o m),(aP.mk g h i j))) partial_fixpoint
def cW (a0:aP):Option rn:=bI a0 4>>=λ(a,c)=>az c [63,63]>>=λ(d,b)=>if d then cW b>>=λ(e,f)=>some ((ae.mk 13 0 [] ([a,e]:List ae)),f)else some (a,b) partial_fixpoint
def eP (a0:aP):Option rn:=cW a0>>=λ(a,b)=>az b [63]>>=λ(c,i)=>if c then aY i>>=λ(d,e)=>aQ e [58]>>=λf=>eP f>>=λ(g,h)=>some ((ae.mk 14 0 [] ([a,d,g]:List ae)),h)else some (a,i) partial_fixpoint
def aY (a0:aP):Option rn:=eP a0>>=λ(a,d)=>bp d 0 6 [61]>>=λ(e,b)=>if e then gL a>>=λf=>if f then bp (aP.mk b.fT (bq (b.fI+1)) b.ay b.ax) 0 6 [38]>>=λ(g,c)=>if g then if a.ah=4 then if b.fI=(bq (a0.fI+1))then fu (aP.mk c.fT (bq (c.fI+1)) c.ay c.ax)>>=λ(o,h)=>some ((ae.mk 17 0 a.al ([o]:List ae)),h)else cR c>>=λ(p,q)=>some (p,q)else cR c>>=λ(i,j)=>some (i,j)else aY c>>=λ(k,l)=>some ((ae.mk 15 0 [] ([a,k]:List ae)),l)else cR b>>=λ(m,n)=>some (m,n)else some (a,b) partial_fixpoint
def bJ (a0:aP):Option rn:=aQ a0 [123]>>=λa=>(cJ a.fT a.fI a.ay a.ax ([]:List ae) ([]:List ae):Option ty9)>>=λ(b,f,c,d,g,e)=>some ((ae.mk 48 0 [] e),(aP.mk b f c d)) partial_fixpoint
def jG (a0:aP):Option rn:=aQ a0 [40]>>=λa=>aY a>>=λ(b,c)=>aQ c [41]>>=λd=>some (b,d) partial_fixpoint
def ll (a0:aP):Option rn:=jG a0>>=λ(r,e)=>(bJ e>>=λ(f,a)=>some (a.fT,a.fI,a.ay,a.ax,([r,f]:List ae)):Option Gl)>>=λ(g,s,h,i,b)=>az (aP.mk g s h i) [101,108,115,101]>>=λ(j,c)=>if j then az c [105,102]>>=λ(k,d)=>if k then ll d>>=λ(l,m)=>cD 56 b [(ae.mk 48 0 [] ([l]:List ae))]>>=λn=>some ((ae.mk 34 0 [] n),m)else bJ d>>=λ(o,p)=>cD 56 b [o]>>=λq=>some ((ae.mk 34 0 [] q),p)else some ((ae.mk 34 0 [] b),c) partial_fixpoint
def kn (a0:aP):Option rn:=aQ a0 [40]>>=λd=>aY d>>=λ(e,f)=>aQ f [97,115]>>=λt=>fu t>>=λ(g,u)=>cD 56 ([e]:List ae) [g]>>=λa=>(az u [61,62]>>=λ(h,b)=>(if h then fu b>>=λ(i,c)=>cD 56 a [i]>>=λj=>some (c.fT,c.fI,c.ay,c.ax,j)else some (b.fT,b.fI,b.ay,b.ax,a)):Option Gl)>>=λ(k,l,m,n,o)=>aQ (aP.mk k l m n) [41]>>=λp=>bJ p>>=λ(q,r)=>cD 56 o [q]>>=λs=>some ((ae.mk 36 0 [] s),r) partial_fixpoint
def lW (a0:aP):Option rn:=bJ a0>>=λ(z,g)=>(az g [99,97,116,99,104]>>=λ(h,c)=>(if h then aQ c [40]>>=λi=>bT i 3>>=λ(j,k)=>fu k>>=λ(l,m)=>aQ m [41]>>=λn=>bJ n>>=λ(o,f)=>cD 56 ([z]:List ae) [(ae.mk 44 0 j ([l,o]:List ae))]>>=λp=>some (f.fT,f.fI,f.ay,f.ax,p)else some (c.fT,c.fI,c.ay,c.ax,([z]:List ae))):Option Gl)>>=λ(q,A,r,s,a)=>az (aP.mk q A r s) [102,105,110,97,108,108,121]>>=λ(t,b)=>if t then bJ b>>=λ(u,d)=>cD 56 a [(ae.mk 45 0 [] ([u]:List ae))]>>=λe=>if(e.length:Int)=1 then cR d>>=λ(v,w)=>some (v,w)else some ((ae.mk 43 0 [] e),d)else if(a.length:Int)=1 then cR b>>=λ(x,y)=>some (x,y)else some ((ae.mk 43 0 [] a),b) partial_fixpoint
def bf (a0:aP):Option rn:=bp a0 0 1 []>>=λ(Un,a)=>if Un then idx a.fT (bq ((bq (a.fI+1)) - 1))>>=λu=>some ((ae.mk 31 0 u.al []),(aP.mk a.fT (bq (a.fI+1)) a.ay a.ax))else bp a 0 6 [123]>>=λ(v,PL)=>if v then bJ PL>>=λ(w,PM)=>some (w,PM)else az PL [105,102]>>=λ(x,Br)=>if x then ll Br>>=λ(y,z)=>some (y,z)else az Br [119,104,105,108,101]>>=λ(A,Jp)=>if A then jG Jp>>=λ(Uq,Ag)=>bJ Ag>>=λ(Bs,B)=>some ((ae.mk 35 0 [] ([Uq,Bs]:List ae)),B)else az Jp [102,111,114,101,97,99,104]>>=λ(C,c)=>if C then kn c>>=λ(D,E)=>some (D,E)else az c [116,114,121]>>=λ(F,d)=>if F then lW d>>=λ(G,H)=>some (G,H)else az d [101,99,104,111]>>=λ(I,e)=>if I then aY e>>=λ(J,K)=>aQ K [59]>>=λL=>some ((ae.mk 32 0 [] ([J]:List ae)),L)else az e [98,114,101,97,107]>>=λ(M,f)=>if M then aQ f [59]>>=λAb=>some ((ae.mk 37 0 [] []),Ab)else az f [99,111,110,116,105,110,117,101]>>=λ(N,Pc)=>if N then aQ Pc [59]>>=λO=>some ((ae.mk 38 0 [] []),O)else az Pc [114,101,116,117,114,110]>>=λ(CG,g)=>if CG then bp g 0 6 [59]>>=λ(P,h)=>if P then aQ h [59]>>=λQ=>some ((ae.mk 39 0 [] []),Q)else aY h>>=λ(R,S)=>aQ S [59]>>=λT=>some ((ae.mk 39 0 [] ([R]:List ae)),T)else az g [103,108,111,98,97,108]>>=λ(U,i)=>if U then bT i 2>>=λ(V,Z9)=>aQ Z9 [59]>>=λW=>some ((ae.mk 40 0 V []),W)else az i [117,110,115,101,116]>>=λ(X,j)=>if X then aQ j [40]>>=λR3=>dM R3 false>>=λ(LB,G5)=>gL LB>>=λR4=>if R4 then aQ G5 [41]>>=λLC=>aQ LC [59]>>=λY=>some ((ae.mk 41 0 [] ([LB]:List ae)),Y)else cR G5>>=λ(R5,Z)=>some (R5,Z)else az j [116,104,114,111,119]>>=λ(aa,k)=>if aa then aY k>>=λ(ad,ag)=>aQ ag [59]>>=λa1=>some ((ae.mk 42 0 [] ([ad]:List ae)),a1)else az k [121,105,101,108,100]>>=λ(a2,LD)=>if a2 then aY LD>>=λ(a3,R6)=>aQ R6 [59]>>=λHa=>some ((ae.mk 46 0 [] ([a3]:List ae)),Ha)else(bp LD 0 2 []>>=λ(a4,l)=>(if a4 then bp l 1 6 [61]>>=λ(wV,m)=>if wV then bp m 2 3 [121,105,101,108,100]>>=λ(a5,t)=>some (t.fT,t.fI,t.ay,t.ax,a5)else some (m.fT,m.fI,m.ay,m.ax,false)else some (l.fT,l.fI,l.ay,l.ax,false)):Option afw)>>=λ(n,o,p,q,a6)=>if a6 then fu (aP.mk n o p q)>>=λ(a8,r)=>uW (r.fT.length:Int) (bq (r.fI+2))>>=λa9=>aY (aP.mk r.fT a9 r.ay r.ax)>>=λ(bg,bj)=>aQ bj [59]>>=λR7=>some ((ae.mk 46 0 [] ([a8,bg]:List ae)),R7)else az (aP.mk n o p q) [105,110,99,108,117,100,101]>>=λ(R8,s)=>if R8 then bp s 0 5 []>>=λ(R9,b)=>if R9 then idx b.fT (bq ((bq (b.fI+1)) - 1))>>=λbo=>aQ (aP.mk b.fT (bq (b.fI+1)) b.ay b.ax) [59]>>=λbr=>some ((ae.mk 47 0 bo.al []),br)else cR b>>=λ(Sa,Sb)=>some (Sa,Sb)else aY s>>=λ(bs,Sd)=>aQ Sd [59]>>=λbt=>some ((ae.mk 33 0 [] ([bs]:List ae)),bt) partial_fixpoint
def dx (a0:aP) (j:List ae):Option afo:=aQ a0 [40]>>=λb=>az b [41]>>=λ(c,a)=>if c then some (j,a)else((di a.fT a.fI a.ay a.ax j:Option ty7)>>=λd=>match d with | .inr r=>some r | .inl (e,f,g,h,i)=>some (i,(aP.mk e f g h))) partial_fixpoint
def dF (n:List ai) (a:Int) (o:Int) (f:Int) (p:List ae) (q:List ae):Option ty3:=if f<0 then aY (aP.mk n a o f)>>=λ(r,s)=>(az s [61,62]>>=λ(t,b)=>(if t then aY b>>=λ(u,e)=>cD 56 ([r]:List ae) [u]>>=λg=>some (e.fT,e.fI,e.ay,e.ax,g)else some (b.fT,b.fI,b.ay,b.ax,([r]:List ae))):Option Gl)>>=λ(h,i,j,k,l)=>cD 56 q [(ae.mk 6 0 [] l)]>>=λc=>az (aP.mk h i j k) [44]>>=λ(m,d)=>if m then dF d.fT d.fI d.ay d.ax p c else aQ d [93]>>=λv=>some (.inr ((ae.mk 5 0 [] c),v))else some (.inl (n,a,o,f,p,q)) partial_fixpoint
def aW (i:Bool) (H:List ai) (l:Int) (m:Int) (j:Int) (k:List ae) (b:Int) (c:Int) (d:av) (e:List ae):Option ty1:=if j<0 then az (aP.mk H l m j) [91]>>=λ(s,p)=>if s then if i then gL (ae.mk b c d e)>>=λK=>if K then az p [93]>>=λ(t,I)=>if t then aQ I [61]>>=λu=>aY u>>=λ(v,w)=>some (.inr ((ae.mk 16 0 [] ([(ae.mk b c d e),v]:List ae)),w))else aY I>>=λ(x,y)=>aQ y [93]>>=λf=>aW i f.fT f.fI f.ay f.ax k 7 0 [] ([(ae.mk b c d e),x]:List ae)else aY p>>=λ(z,A)=>aQ A [93]>>=λg=>aW i g.fT g.fI g.ay g.ax k 7 0 [] ([(ae.mk b c d e),z]:List ae)else aY p>>=λ(B,C)=>aQ C [93]>>=λq=>aW i q.fT q.fI q.ay q.ax k 7 0 [] ([(ae.mk b c d e),B]:List ae)else az p [45,62]>>=λ(D,n)=>if D then bT n 3>>=λ(o,E)=>bp E 0 6 [40]>>=λ(L,a)=>if L then dx a ([(ae.mk b c d e)]:List ae)>>=λ(F,r)=>aW i r.fT r.fI r.ay r.ax k 20 0 o F else aW i a.fT a.fI a.ay a.ax k 8 0 o ([(ae.mk b c d e)]:List ae)else bp n 0 6 [40]>>=λ(M,J)=>if M then dx J ([(ae.mk b c d e)]:List ae)>>=λ(G,h)=>aW i h.fT h.fI h.ay h.ax k 19 0 [] G else some (.inr ((ae.mk b c d e),J))else some (.inl (H,l,m,j,k,b,c,d,e)) partial_fixpoint
def aG (h:Int) (i:List ai) (j:Int) (b:Int) (c:Int) (a:List ae) (t:Int) (u:Int) (v:av) (w:List ae):Option ty1:=if j<(i.length:Int)then idx i j>>=λI=>if I.ah=6 then idx i j>>=λy=>lV y.al>>=λk=>((if h=4 then az (aP.mk i j b c) [124,124]>>=λ(z,d)=>some (d.fT,d.fI,d.ay,d.ax,z)else some (i,j,b,c,false)):Option afw)>>=λ(l,m,n,o,A)=>if A then bI (aP.mk l m n o) 5>>=λ(B,e)=>aG h e.fT e.fI e.ay e.ax a 12 0 [] ([(ae.mk t u v w),B]:List ae)else((if h=5 then az (aP.mk l m n o) [38,38]>>=λ(C,f)=>some (f.fT,f.fI,f.ay,f.ax,C)else some (l,m,n,o,false)):Option afw)>>=λ(p,q,r,s,D)=>if D then bI (aP.mk p q r s) 6>>=λ(E,g)=>aG h g.fT g.fI g.ay g.ax a 11 0 [] ([(ae.mk t u v w),E]:List ae)else((if k>0 then eC k>>=λF=>some (F==h)else some false):Option (Bool))>>=λG=>if G then bI (aP.mk p (bq (q+1)) r s) (bq (h+1))>>=λ(H,x)=>aG h x.fT x.fI x.ay x.ax a 10 k [] ([(ae.mk t u v w),H]:List ae)else some (.inr ((ae.mk t u v w),(aP.mk p q r s)))else some (.inl (i,j,b,c,a,t,u,v,w))else some (.inl (i,j,b,c,a,t,u,v,w)) partial_fixpoint
def cJ (f:List ai) (g:Int) (h:Int) (i:Int) (c:List ae) (d:List ae):Option ty9:=if i<0 then az (aP.mk f g h i) [125]>>=λ(j,a)=>if j then some (a.fT,a.fI,a.ay,a.ax,c,d)else az a [59]>>=λ(k,b)=>if k then cJ b.fT b.fI b.ay b.ax c d else bf b>>=λ(m,e)=>cD 56 d [m]>>=λl=>cJ e.fT e.fI e.ay e.ax c l else some (f,g,h,i,c,d) partial_fixpoint
def di (j:List ai) (b:Int) (c:Int) (a:Int) (d:List ae):Option ty7:=if a<0 then aY (aP.mk j b c a)>>=λ(k,g)=>cD 56 d [k]>>=λe=>az g [44]>>=λ(h,f)=>if h then di f.fT f.fI f.ay f.ax e else aQ f [41]>>=λi=>some (.inr (e,i))else some (.inl (j,b,c,a,d)) partial_fixpoint
end
abbrev aLg:=@gW.mutual_partial_correctness
def mM (a0:aP):Option rn:=(az a0 [112,114,105,118,97,116,101]>>=λ(E,a)=>(if E then some (a.fT,a.fI,a.ay,a.ax,1)else some (a.fT,a.fI,a.ay,a.ax,0)):Option ((List ai)×Int×Int×Int×Int))>>=λ(F,G,H,I,y5)=>bp (aP.mk F G H I) 0 2 []>>=λ(J,z)=>if J then bT z 2>>=λ(c,K)=>az K [61]>>=λ(g,d)=>if g then bp d 0 4 []>>=λ(h,A)=>if h then aH A>>=λ(L,i)=>aQ i [59]>>=λM=>some ((ae.mk 54 y5 c ([L]:List ae)),M)else bp A 0 5 []>>=λ(j,B)=>if j then aH B>>=λ(k,N)=>aQ N [59]>>=λl=>some ((ae.mk 54 y5 c ([k]:List ae)),l)else bp B 0 3 [110,117,108,108]>>=λ(O,C)=>if O then aH C>>=λ(m,P)=>aQ P [59]>>=λn=>some ((ae.mk 54 y5 c ([m]:List ae)),n)else bp C 0 3 [116,114,117,101]>>=λ(o,e)=>if o then aH e>>=λ(Q,R)=>aQ R [59]>>=λS=>some ((ae.mk 54 y5 c ([Q]:List ae)),S)else bp e 0 3 [102,97,108,115,101]>>=λ(p,D)=>if p then aH D>>=λ(T,q)=>aQ q [59]>>=λU=>some ((ae.mk 54 y5 c ([T]:List ae)),U)else cR D>>=λ(V,W)=>some (V,W)else aQ d [59]>>=λr=>some ((ae.mk 54 y5 c ([(ae.mk 3 0 [] [])]:List ae)),r)else(az z [115,116,97,116,105,99]>>=λ(X,b)=>(if X then some (b.fT,b.fI,b.ay,b.ax,bq (y5+2))else some (b.fT,b.fI,b.ay,b.ax,y5)):Option ((List ai)×Int×Int×Int×Int))>>=λ(s,t,u,v,w)=>aQ (aP.mk s t u v) [102,117,110,99,116,105,111,110]>>=λY=>bT Y 3>>=λ(f,Z)=>de Z 24 ([]:List ae)>>=λ(vR,Cx)=>bJ Cx>>=λ(x,FX)=>cD 56 vR [x]>>=λy=>some ((ae.mk 55 w f y),FX)
def fh (g:List ai) (h:Int) (i:Int) (d:Int) (b:List ae):Option Gl:=az (aP.mk g h i d) [117,115,101]>>=λ(j,a)=>if j then bT a 3>>=λ(e,k)=>cD 56 b [(ae.mk 53 0 e [])]>>=λf=>aQ k [59]>>=λc=>fh c.fT c.fI c.ay c.ax f else some (a.fT,a.fI,a.ay,a.ax,b) partial_fixpoint
def fp (d:List ai) (e:Int) (f:Int) (b:Int) (c:List ae):Option Gl:=if b<0 then az (aP.mk d e f b) [125]>>=λ(h,a)=>if h then some (a.fT,a.fI,a.ay,a.ax,c)else mM a>>=λ(i,g)=>cD 56 c [i]>>=λj=>fp g.fT g.fI g.ay g.ax j else some (d,e,f,b,c) partial_fixpoint
def qI (a0:aP) (k:Int):Option rn:=bT a0 3>>=λ(l,c)=>((if k=50 then az c [101,120,116,101,110,100,115]>>=λ(m,d)=>if m then bT d 3>>=λ(n,a)=>must (1*56<=140737488355328)>>=λ_=>some (a.fT,a.fI,a.ay,a.ax,[(ae.mk 52 0 n [])])else some (d.fT,d.fI,d.ay,d.ax,([]:List ae))else some (c.fT,c.fI,c.ay,c.ax,([]:List ae))):Option Gl)>>=λ(o,y5,y6,p,q)=>aQ (aP.mk o y5 y6 p) [123]>>=λb=>(fh b.fT b.fI b.ay b.ax q:Option Gl)>>=λ(r,s,t,e,u)=>(fp r s t e u:Option Gl)>>=λ(f,g,h,i,j)=>some ((ae.mk k 0 l j),(aP.mk f g h i))
def bV (j:List ai) (k:Int) (q:Int) (l:Int) (b:List ae) (c:List ae):Option ty9:=if l<0 then if k<(j.length:Int)then az (aP.mk j k q l) [59]>>=λ(r,d)=>if r then bV d.fT d.fI d.ay d.ax b c else(bp d 0 3 [102,117,110,99,116,105,111,110]>>=λ(s,e)=>(if s then bp e 1 3 []>>=λ(E,m)=>some (m.fT,m.fI,m.ay,m.ax,E)else some (e.fT,e.fI,e.ay,e.ax,false)):Option afw)>>=λ(C,D,f,g,t)=>if t then bT (aP.mk C (bq (D+1)) f g) 3>>=λ(F,u)=>de u 24 ([]:List ae)>>=λ(v,G)=>bJ G>>=λ(H,n)=>cD 56 v [H]>>=λw=>cD 56 c [(ae.mk 49 0 F w)]>>=λx=>bV n.fT n.fI n.ay n.ax b x else az (aP.mk C D f g) [99,108,97,115,115]>>=λ(I,h)=>if I then qI h 50>>=λ(y,o)=>cD 56 c [y]>>=λz=>bV o.fT o.fI o.ay o.ax b z else az h [116,114,97,105,116]>>=λ(J,i)=>if J then qI i 51>>=λ(K,a)=>cD 56 c [K]>>=λA=>bV a.fT a.fI a.ay a.ax b A else bf i>>=λ(L,p)=>cD 56 c [L]>>=λB=>bV p.fT p.fI p.ay p.ax b B else some (j,k,q,l,b,c)else some (j,k,q,l,b,c) partial_fixpoint
def lr (a0:aP):Option rn:=(bV a0.fT a0.fI a0.ay a0.ax ([]:List ae) ([]:List ae):Option ty9)>>=λ(a,b,c,d,f,e)=>some ((ae.mk 56 0 [] e),(aP.mk a b c d))
theorem nest {c:Prop} [Decidable c] {b:Bool}:(if c then(some (.inr b):Option (Unit ⊕ Bool))else some (.inr false))=some (.inr (decide c&&b)):=by
 by_cases h:c<;>simp [h]
theorem aCt {c:Prop} [Decidable c] {b:Bool}:(if c then some b else some false)=some (decide c&&b):=by
 by_cases h:c<;>simp [h]
theorem JB {α:Type} [BEq α] [LawfulBEq α] {a b:α} [Decidable (a=b)]:decide (a=b)=(a==b):=by
 by_cases h:a=b
 ·rw[aSa h,h,aSI]
 ·rw[aRA h,an.2 h]
section
variable {E S:ae->Bool}
theorem ln1 (c:List ae):(((c.length:Int)==1)&&c.all E)=(match c with | [a]=>E a | _=>false):=by
 match c with
 | []=>rfl
 | [a]=>simp
 | a::b::r=>rw[an.2 aUR];rfl
theorem ln2 (d:List ae):(((d.length:Int)==2)&&d.all E)=(match d with | [a,b]=>E a&&E b | _=>false):=by
 match d with
 | []=>rfl
 | [a]=>rfl
 | [a,b]=>simp
 | a::b::c::r=>rw[an.2 aUR];rfl
theorem ln3 (e:List ae):(((e.length:Int)==3)&&e.all E)=(match e with | [a,b,c]=>E a&&(E b&&E c) | _=>false):=by
 match e with
 | []=>rfl
 | [a]=>rfl
 | [a,b]=>rfl
 | [a,b,c]=>simp
 | a::b::c::d::r=>rw[an.2 aUR];rfl
theorem aCu (b:List ae):(decide ((b.length:Int)>=1)&&b.all E)=(match b with | []=>false | a::r=>E a&&r.all E):=by
 match b with
 | []=>rfl
 | a::r=>rw[aSa aUR];rfl
theorem aCv (c:List ae):(decide ((c.length:Int)<=1)&&c.all E)=(match c with | []=>true | [a]=>E a | _=>false):=by
 match c with
 | []=>rfl
 | [a]=>simp
 | a::b::r=>rw[aRA aUR];rfl
theorem SK (l:List ae) (h:∀x∈l,cO x=some (E x)) (a:l.length<4611686018427387904):∀f i:Nat,l.length<=i+f->kZ l (i:Int)=some (Ho ((l.drop i).all E))
 | f,i,hf=>by
  rw[kZ];by_cases hc:i<l.length
  ·obtain⟨g,rfl⟩:∃g,f=g+1:=⟨f - 1,by omega⟩;rw[At aUE,dj hc,sb,h _ (aRr hc),sb,ca aUE,SK l h a g (i+1) aUE,aRl hc,aRn];cases E l[i]<;>rfl
  ·rw[As aUE,aRd aUE];rfl
theorem JC (l:List ae) (h:∀x∈l,cO x=some (E x)) (a:l.length<4611686018427387904):c8 l=some (l.all E):=by
 have:=SK l h a l.length 0 aUE;rw[show((0:Nat):Int)=0 from rfl,aRk]at this;rw[c8,this,sb];cases l.all E<;>rfl
theorem abI (l:List ae) (h:∀x∈l,dn x=some (S x)) (b:l.length<4611686018427387904):∀f i:Nat,l.length<=i+f->mN l (i:Int)=some (Ho ((l.drop i).all (bl S)))
 | f,i,hf=>by
  rw[mN];by_cases hc:i<l.length
  ·obtain⟨g,rfl⟩:∃g,f=g+1:=⟨f - 1,by omega⟩;rw[At aUE,dj hc,sb,h _ (aRr hc),sb,ca aUE,abI l h b g (i+1) aUE,aRl hc,aRn,bl];by_cases a:l[i].ah=48
   ·rw[At a,a];cases S l[i]<;>rfl
   ·rw[As a,an.2 a];rfl
  ·rw[As aUE,aRd aUE];rfl
theorem xf (l:List ae) (h:∀x∈l,dn x=some (S x)) (a:l.length<4611686018427387904):gF l=some (l.all (bl S)):=by
 have:=abI l h a l.length 0 aUE;rw[show((0:Nat):Int)=0 from rfl,aRk]at this;rw[gF,this,sb];cases l.all (bl S)<;>rfl
theorem abK (n:ae) (h:∀x∈n.af,dn x=some (S x)) (a:n.af.length<4611686018427387904):∀f i:Nat,n.af.length<=i+f->mO n (i:Int)=some (ob2 ((n.af.drop i).all S))
 | f,i,hf=>by
  rw[mO];by_cases hc:i<n.af.length
  ·obtain⟨g,rfl⟩:∃g,f=g+1:=⟨f - 1,by omega⟩;rw[At aUE,dj hc,sb,h _ (aRr hc),sb,ca aUE,abK n h a g (i+1) aUE,aRl hc,aRn];cases S n.af[i]<;>rfl
  ·rw[As aUE,aRd aUE];rfl
theorem abM (n:ae) (h:∀x∈n.af,∀y∈x.af,cO y=some (E y)) (b:∀x∈n.af,x.af.length<4611686018427387904) (c:n.af.length<4611686018427387904):∀f i:Nat,n.af.length<=i+f->mP n (i:Int)=some (ob2 ((n.af.drop i).all (SA E)))
 | f,i,hf=>by
  rw[mP];by_cases hc:i<n.af.length
  ·obtain⟨g,rfl⟩:∃g,f=g+1:=⟨f - 1,by omega⟩;rw[At aUE,dj hc,sb,tQ,sb,JC _ (h _ (aRr hc)) (b _ (aRr hc)),sb,ca aUE,abM n h b c g (i+1) aUE,aRl hc,aRn];generalize n.af[i]=x;unfold SA;by_cases h1:x.ah=6
   ·by_cases h2:x.aE=0
    ·by_cases a:x.al=([]:av)
     ·rw[At h1,At h2,At a,h1,h2,a];cases decide (1<=(x.af.length:Int)/\(x.af.length:Int)<=2)
      ·rfl
      ·cases x.af.all E<;>rfl
     ·rw[At h1,At h2,As a,an.2 a,aSj,aRF,aRF];rfl
    ·rw[At h1,As h2,an.2 h2,aSj,aRF];rfl
   ·rw[As h1,an.2 h1];rfl
  ·rw[As aUE,aRd aUE];rfl
theorem SL (a:Bool) (l:List ae) (d:l.length<4611686018427387904):∀(f i:Nat) (b:Bool),l.length<=i+f->jH a l b (i:Int)=some (Ho (CR a b (l.drop i)))
 | f,i,b,hf=>by
  rw[jH];by_cases hc:i<l.length
  ·obtain⟨g,rfl⟩:∃g,f=g+1:=⟨f - 1,by omega⟩;have e:=λj=>SL a l d g (i+1) j aUE;rw[At aUE,dj hc,sb,aRl hc];simp only[tQ,sb,tR,ca (show i<9223372036854775807 by omega),e,CR];generalize l[i]=x
   have e0:(if(x.af.length:Int)>0 then(some (.inr false):Option (Unit ⊕ Bool))else some (Ho (CR a (b||x.ah==25) (l.drop (i+1)))))=some (Ho ((x.af.length:Int)==0&&CR a (b||x.ah==25) (l.drop (i+1)))):=by
    by_cases h:(x.af.length:Int)>0
    ·rw[At h,an.2 aUE];rfl
    ·rw[As h,show(x.af.length:Int)=0 by omega];rfl
   by_cases h1:x.ah=25
   ·rw[At h1];cases a
    ·rw[h1];rfl
    ·rw[h1]at e0;simp only[Int.reduceBEq,aSg,aSI]at e0;rw[h1,At rfl,sb];cases decide (0<=x.aE/\x.aE<=1)
     ·rfl
     ·cases good x.al
      ·rfl
      ·simpa using e0
   ·rw[As h1];have c:(x.ah==25)=false:=an.2 h1;rw[c,aRH]at e0;rw[c,aRH,aSj,aRy];by_cases h2:x.ah=24
    ·rw[At h2,h2];cases b
     ·cases decide (0<=x.aE/\x.aE<=1)
      ·rfl
      ·cases good x.al
       ·rfl
       ·simpa using e0
     ·rfl
    ·rw[As h2,an.2 h2];rfl
  ·rw[As aUE,aRd aUE];rfl
theorem afK {l:List ae} {z:ae}:Ny (l++[z]) (l.length:Int)=some l:=by
 unfold Ny;rw[At ⟨by omega,by simp;omega⟩,aSF,List.take_left]
theorem JD (a:Bool) (b:List ae) (e:b.length<4611686018427387904) (f:∀x∈b,dn x=some (S x)):hZ b a=some (fU S a b):=by
 rcases aSK b with rfl | ⟨l,z,rfl⟩
 ·rw[hZ];rfl
 ·rw[aSL]at e f ⊢;have d:l.length<4611686018427387904:=by simp at e;omega
  have:=SL a l d l.length 0 false aUE;rw[show((0:Nat):Int)=0 from rfl,aRk]at this;rw[hZ,kj (x:=(((l++[z]).length:Int)) - 1) (n:=l.length) aUG aUE,As aUE,tW,sb,sb,f z aUG,sb,fU,aTc,aTd,afK,sb,this,sb];show _=some (CR a false l&&bl S z);rw[bl];by_cases c:z.ah=48
  ·rw[At c,c];cases S z<;>cases CR a false l<;>rfl
  ·rw[As c,an.2 c];simp
theorem var_eq (x:ae) (h:E x=fE E S x):iP x=some (x.ah==4&&E x):=by
 unfold iP;simp only[tR,sb,aCt,JB,beq_true];by_cases a:x.ah=4
 ·rw[h,fE,a];rfl
 ·rw[an.2 a];rfl
mutual
def zJ:ae->Bool | .mk k _ _ a=>if k=7/\a≠[]then aLp a else k==4||k==8
def aLp:List ae->Bool | []=>false | x::_=>zJ x
end
theorem abN:∀(k m:Int) (t:av) (e:List ae),∃a b c d,k7 k m t e=some (a,b,c,d)/\zJ (.mk k m t e)=(a==4||a==8)
 | k,m,t,e=>by
  rw[k7,zJ];by_cases h:k=7
  ·match e with
   | .mk k1 g t1 f::y=>rw[At h,At aUR,At ⟨h,by simp⟩,eG,sb];exact abN k1 g t1 f
   | []=>rw[At h,As aUG,As (λq=>q.2 rfl)];exact⟨_,_,_,_,rfl,rfl⟩
  ·rw[As h,As (λq=>h q.1)];exact⟨_,_,_,_,rfl,rfl⟩
theorem qj (x:ae):fP x=some (zJ x):=by
 cases x with
 | mk k m t e=>
  obtain⟨a,b,c,d,h1,h2⟩:=abN k m t e;unfold fP;simp only[ae.tV,ae.uU,ae.mG,ae.kU,h1,sb];rw[h2];by_cases h:a=4
  ·rw[At h,h];rfl
  ·rw[As h,an.2 h,aRy]
theorem SM:∀(N:Nat) (x:ae),sz x<N->(∀y,sz y<=sz x->wt y<=wt x->E y=fE E S y)->E x=true->zJ x=wv x
 | 0,x,h,_,_=>by omega
 | N+1,.mk k m t e,h,f,he=>by
  rw[zJ,wv];by_cases d:k=7
  ·subst d;have h1:=f _ (Of _) (Of _);rw[he,fE]at h1
   have h2:gE E S 7 e=true:=by
    have:=h1.symm;simp only[No]at this;exact this.2.2
   match e,h2 with
   | [a,b],h2=>
    rw[At ⟨rfl,by simp⟩,At ⟨rfl,rfl⟩];have i:(E a&&E b)=true:=h2;have g:a∈(ae.mk 7 m t [a,b]).af:=by simp
    have hs:=kO g;have hw:=jN g;exact SM N a aUE (λy q j=>f y aUE aUE) (Bool.and_eq_true_iff.1 i).1
   | [],h2=>cases h2
   | [a],h2=>cases h2
   | a::b::c::r,h2=>cases h2
  ·rw[As (λq=>d q.1),As (λq=>d q.1)]
end
def ltr (c:UInt8):Bool:=decide ((97<=c.toNat/\c.toNat<=122)\/(65<=c.toNat/\c.toNat<=90)\/c.toNat=95)
def nmW:av->Bool | c::_=>ltr c | []=>false
def zm:List av:=[[61,61,61],[33,61,61],[60,61,62],[61,61],[33,61],[60,61],[62,61],[61,62],[45,62],[58,58],[38,38],[124,124],[63,63],[43],[45],[42],[47],[37],[46],[61],[33],[60],[62],[40],[41],[91],[93],[123],[125],[44],[59],[63],[58],[38]]
structure Tk (ts:List ai) (e:Int):Prop where
 len:ts.length<=4000
 e0:0<=e
 at0:∀t∈ts,0<=t.bF
 txt:∀t∈ts,t.al.length<=4000
 nam:∀t∈ts,t.ah=3->nmW t.al=true
 mrk:∀t∈ts,t.ah=6->zm.contains t.al=true
inductive JS where
 | g (i:Nat)
 | b (j:Nat)
 | d (j:Nat)
def tok (ts:List ai) (i:Nat):ai:=ts.getD i ⟨0,0,[],0⟩
def kd (ts:List ai) (i:Nat):Int:=(tok ts i).ah
def tx (ts:List ai) (i:Nat):av:=(tok ts i).al
def pl (ts:List ai) (e:Int) (j:Nat):Int:=if j<ts.length then(tok ts j).bF else e
def pS (ts:List ai) (e:Int):JS->aP
 | .g i=>⟨ts,i,e,-1⟩
 | .b j=>⟨ts,ts.length,e,pl ts e j⟩
 | .d j=>⟨ts,ts.length,e,pl ts e j⟩
def qS (ts:List ai) (e:Int):JS->ak
 | .g i=>⟨ts,i,e,false⟩
 | .b j=>⟨ts,j,e,true⟩
 | .d j=>⟨ts,j,e,false⟩
def JS.pos:JS->Nat | .g i=>i | .b i=>i | .d i=>i
def tw (ts:List ai) (i:Nat) (w:av):Bool:=(kd ts i==6||kd ts i==3)&&tx ts i==w
def JS.Ok (ts:List ai):JS->Prop | .g i=>i<=ts.length | .b i=>i<=ts.length | .d i=>i<ts.length/\tw ts i [61]=true
def JS.nd:JS->Bool | .d _=>false | _=>true
def tS (ts:List ai) (s:JS) (w:av):Bool:=match s with | .g i=>tw ts i w | _=>false
def wS (ts:List ai) (s:JS) (w:av):JS:=match s with | .g i=>(bif tw ts i w then .g (i+1)else .b i) | .b j=>.b j | .d j=>.b j
def vu (ts:List ai) (k:Int) (i:Nat):Bool:=kd ts i==k&&good (tx ts i)
def nS (ts:List ai) (s:JS) (k:Int):JS:=match s with | .g i=>(bif vu ts k i then .g (i+1)else .b i) | .b j=>.b j | .d j=>.b j
def nT (ts:List ai) (s:JS) (k:Int):av:=match s with | .g i=>(bif vu ts k i then tx ts i else[]) | _=>[]
def aT (ts:List ai) (i:Nat) (k:Int) (w:av):Bool:=kd ts i==k&&(w==([]:av)||tx ts i==w)
def aS (ts:List ai) (s:JS) (o:Nat) (k:Int) (w:av):Bool:=match s with | .g i=>aT ts (i+o) k w | _=>false
theorem gA {α β:Type} {x:Option α} {a:α} {F:α->Option β} (h:x=some a):(x>>=F)=F a:=by rw[h];rfl
theorem a7 {α β:Type} {x:Option α} {a:α} {F:α->Option β} {r:Option β} (h:x=some a) (k:F a=r):(x>>=F)=r:=(gA h).trans k
theorem dC {α β:Type} {x:Option α} {a:α} {F:α->Option β} {r A B:Option β} {c:Prop} {i:Decidable c} (h:x=some a) (k:A=r) (e:F a=@ite _ c i A B:=by rfl) (hc:c:=by rfl):(x>>=F)=r:=(gA h).trans (e.trans ((At hc).trans k))
theorem bm {α β:Type} {x:Option α} {a:α} {F:α->Option β} {r A B:Option β} {c:Prop} {i:Decidable c} (h:x=some a) (k:B=r) (e:F a=@ite _ c i A B:=by rfl) (hc:¬c:=by exact are):(x>>=F)=r:=(gA h).trans (e.trans ((As hc).trans k))
theorem nG {β:Type} {r A B:β} {c:Prop} {i:Decidable c} (hc:c) (k:A=r):@ite _ c i A B=r:=(At hc).trans k
theorem cf {β:Type} {r A B:β} {c:Prop} {i:Decidable c} (hc:¬c) (k:B=r):@ite _ c i A B=r:=(As hc).trans k
theorem jm (p:aP):aP.mk p.fT p.fI p.ay p.ax=p:=rfl
theorem du (p:ak):ak.mk p.aq p.bF p.ay p.ax=p:=rfl
theorem afL (n:ae):ae.mk n.ah n.aE n.al n.af=n:=by cases n;rfl
theorem wW {x:Int} (h1: -9223372036854775808<=x) (h2:x<=9223372036854775807):bq x=x:=Ks h1 h2
section
variable {ts:List ai}{e e':Int}
theorem abO {i:Nat} (h:i<ts.length):ts[i]=tok ts i:=by unfold tok;rw[aRb,abL h];rfl
theorem uM {i:Nat} (h:¬i<ts.length):tok ts i=⟨0,0,[],0⟩:=by unfold tok;rw[aRb,aRQ aUE];rfl
theorem lC {i:Nat} (h:kd ts i≠0):i<ts.length:=by
 by_cases hi:i<ts.length
 ·exact hi
 ·exfalso;apply h;unfold kd;rw[uM hi]
theorem G2 {i:Nat} {w:av} (h:tw ts i w=true):(kd ts i=6\/kd ts i=3)/\tx ts i=w:=by
 unfold tw at h;simpa using h
theorem cd {i:Nat} {w:av} (h:tw ts i w=true):i<ts.length:=lC (by have:=(G2 h).1;omega)
theorem dK {i:Nat} {w a:av} (h:tw ts i w=true) (b:(w==a)=false):tw ts i a=false:=by
 obtain⟨_,h2⟩:=G2 h;unfold tw;rw[h2,b,aRF]
theorem Ap {i:Nat} (h:i<ts.length):tok ts i∈ts:=by rw[<-abO h];exact aRr h
theorem uO (H:Tk ts e) (i:Nat):(tx ts i).length<=4000:=by
 by_cases h:i<ts.length
 ·exact H.txt _ (Ap h)
 ·unfold tx;rw[uM h];simp
theorem fJ {i:Nat} (h:i<ts.length):idx ts (i:Int)=some (tok ts i):=by rw[dj h,abO h]
theorem O7 (H:Tk ts e) (j:Nat):0<=pl ts e j:=by
 unfold pl;split
 ·rename_i h;exact H.at0 _ (Ap h)
 ·exact H.e0
theorem aM {i:Nat} {w:av} (H:Tk ts e) (hw:nmW w=false) (b:w≠[]):aT ts i 6 w=tw ts i w:=by
 unfold aT tw;rw[an.2 b,aRy];by_cases a:kd ts i=3
 ·have c:i<ts.length:=lC aUE;have:=H.nam _ (Ap c) a
  have hx:(tx ts i==w)=false:=by
   rw[an];intro hh;rw[<-hh]at hw;rw[show tx ts i=(tok ts i).al from rfl,this]at hw;cases hw
  rw[hx,aRF,aRF]
 ·rw[an.2 a,aRH]
theorem aN {i:Nat} {w:av} (H:Tk ts e) (hw:zm.contains w=false) (b:w≠[]):aT ts i 3 w=tw ts i w:=by
 unfold aT tw;rw[an.2 b,aRy];by_cases a:kd ts i=6
 ·have c:i<ts.length:=lC aUE;have:=H.mrk _ (Ap c) a
  have hx:(tx ts i==w)=false:=by
   rw[an];intro hh;rw[<-hh]at hw;rw[show tx ts i=(tok ts i).al from rfl,this]at hw;cases hw
  rw[hx,aRF,aRF]
 ·rw[an.2 a,aRy]
theorem sAt (H:Tk ts e) (s:JS) (hs:s.Ok ts) (o:Nat) (ho:o<=10) (k:Int) (c:k≠0) (w:av):bp (pS ts e s) (o:Int) k w=some (aS ts s o k w,pS ts e s):=by
 have l:=H.len
 have out:∀x:Int,x=(ts.length:Int)->∀bd:Int,bp ⟨ts,x,e,bd⟩ (o:Int) k w=some (false,⟨ts,x,e,bd⟩):=λx hx bd=>by
  subst hx;unfold bp;rw[As];rw[wW]<;>simp only<;>omega
 cases s with
 | g i=>
  have hi:i<=ts.length:=hs;show bp ⟨ts,(i:Int),e,-1⟩ (o:Int) k w=some (aT ts (i+o) k w,⟨ts,(i:Int),e,-1⟩);have f:bq ((i:Int)+(o:Int))=((i+o:Nat):Int):=by rw[wW aUE aUE];omega
  unfold bp;simp only[f];by_cases h:i+o<ts.length
  ·rw[At aUE,fJ h,sb];unfold aT kd tx;by_cases h2:(tok ts (i+o)).ah=k
   ·rw[At h2,h2,aSZ,aSn];by_cases a:w=[]
    ·rw[At a,a];rfl
    ·rw[As a,sb,an.2 a];rfl
   ·rw[As h2,an.2 h2];rfl
  ·rw[As aUE];unfold aT kd;rw[uM h,an.2 (aSA c)];rfl
 | b j=>exact out _ rfl _
 | d j=>exact out _ rfl _
theorem dz (H:Tk ts e) (s:JS) (hs:s.Ok ts) (k:Int) (w:av) (a:k≠0):bp (pS ts e s) 0 k w=some (aS ts s 0 k w,pS ts e s):=sAt H s hs 0 aUE k a w
theorem aCw (H:Tk ts e) (s:JS) (hs:s.Ok ts) (k:Int) (w:av) (a:k≠0):bp (pS ts e s) 1 k w=some (aS ts s 1 k w,pS ts e s):=sAt H s hs 1 aUE k a w
theorem aLq (H:Tk ts e) (s:JS) (hs:s.Ok ts) (k:Int) (w:av) (a:k≠0):bp (pS ts e s) 2 k w=some (aS ts s 2 k w,pS ts e s):=sAt H s hs 2 aUE k a w
theorem re (H:Tk ts e) {i:Nat} (h:i<=ts.length):aP.mk (pS ts e (.g i)).fT (bq ((pS ts e (.g i)).fI+1)) (pS ts e (.g i)).ay (pS ts e (.g i)).ax=pS ts e (.g (i+1)):=by
 have:=H.len;show aP.mk ts (bq ((i:Int)+1)) e (-1)=⟨ts,((i+1:Nat):Int),e,-1⟩;rw[ca aUE]
theorem abP {i:Nat} {w:av} (hw:w≠[]):tw ts i w=(aT ts i 6 w||aT ts i 3 w):=by
 unfold tw aT;rw[an.2 hw,aRy];cases kd ts i==6<;>cases kd ts i==3<;>cases tx ts i==w<;>rfl
theorem aZ (H:Tk ts e) {s:JS} (hs:s.Ok ts) {w:av} (h:tS ts s w=false) (hw:w≠[]:=by decide):az (pS ts e s) w=some (false,pS ts e s):=by
 have a:aS ts s 0 6 w=false:=by
  cases s with
  | g i=>have:tw ts i w=false:=h;rw[abP hw,aSB]at this;exact this.1
  | _=>rfl
 have b:aS ts s 0 3 w=false:=by
  cases s with
  | g i=>have:tw ts i w=false:=h;rw[abP hw,aSB]at this;exact this.2
  | _=>rfl
 unfold az;rw[dz H s hs _ _ aUF,sb,a];simp only[atX,aRc];rw[dz H s hs _ _ aUF,sb,b];rfl
theorem ck (H:Tk ts e) {i:Nat} {w:av} (h:tw ts i w=true) (hw:w≠[]:=by decide):az (pS ts e (.g i)) w=some (true,pS ts e (.g (i+1))):=by
 have a:=cd h;have hs:(JS.g i).Ok ts:=aRL a;rw[abP hw]at h;unfold az;rw[dz H _ hs _ _ aUF,sb];have b:aS ts (.g i) 0 6 w=aT ts i 6 w:=rfl;have c:aS ts (.g i) 0 3 w=aT ts i 3 w:=rfl;rw[b];cases d:aT ts i 6 w with
 | true=>dsimp only;rw[At rfl,re H hs]
 | false=>
  rw[d,aRy]at h;simp only[atX,aRc];rw[dz H _ hs _ _ aUF,sb,c,h];dsimp only;rw[At rfl,re H hs]
def ND:JS->JS | .g i=>.b i | .b j=>.b j | .d j=>.b j
theorem qZ (H:Tk ts e) (s:JS) (hs:s.Ok ts):cR (pS ts e s)=some (.mk 0 0 [] [],pS ts e (ND s)):=by
 have bad:∀j:Nat,cR ⟨ts,(ts.length:Int),e,pl ts e j⟩=some (.mk 0 0 [] [],⟨ts,(ts.length:Int),e,pl ts e j⟩):=λj=>by
  have:=O7 H j;unfold cR;rw[As (by simp only;omega)]
 cases s with
 | g i=>
  have hi:i<=ts.length:=hs;show cR ⟨ts,(i:Int),e,-1⟩=some (.mk 0 0 [] [],⟨ts,(ts.length:Int),e,pl ts e i⟩);unfold cR pl;rw[At (show(-1:Int)<0 by decide)];by_cases h:i<ts.length
  ·simp only;rw[At aUE,fJ h,sb,At h]
  ·simp only;rw[As aUE,As h]
 | b j=>exact bad j
 | d j=>exact bad j
theorem DP {i:Nat} {w:av}:wS ts (.g i) w=(bif tw ts i w then .g (i+1)else .b i):=rfl
theorem Lj {i:Nat} {k:Int}:nS ts (.g i) k=(bif vu ts k i then .g (i+1)else .b i):=rfl
theorem Y7 {i:Nat} {k:Int}:nT ts (.g i) k=(bif vu ts k i then tx ts i else[]):=rfl
theorem kD {s:JS} {w:av} (h:tS ts s w=false):wS ts s w=ND s:=by
 cases s with
 | g i=>have:tw ts i w=false:=h;rw[DP,this];rfl
 | _=>rfl
theorem I6 (s:JS) (w:av):tS ts s w=false\/∃i,s=.g i/\tw ts i w=true:=by
 cases h:tS ts s w with
 | false=>exact .inl rfl
 | true=>
  cases s with
  | g i=>exact .inr ⟨i,rfl,h⟩
  | _=>cases h
theorem dW (H:Tk ts e) (s:JS) (hs:s.Ok ts) (w:av) (hw:w≠[]:=by decide):aQ (pS ts e s) w=some (pS ts e (wS ts s w)):=by
 unfold aQ;rcases I6 (ts:=ts) s w with h | ⟨i,rfl,h⟩
 ·rw[aZ H hs h hw,sb];simp only[atX,aRc];rw[qZ H s hs,sb,kD h]
 ·rw[ck H h hw,sb,DP,h];rfl
theorem kE {s:JS} (hs:s.Ok ts) (w:av):(wS ts s w).Ok ts:=by
 cases s with
 | g i=>
  rw[DP];cases h:tw ts i w with
  | true=>exact cd h
  | false=>exact hs
 | b j=>exact hs
 | d j=>exact aRL hs.1
theorem mH (s:JS) (w:av):(wS ts s w).nd=true:=by
 cases s with
 | g i=>rw[DP];cases tw ts i w<;>rfl
 | _=>rfl
theorem tI (s:JS) (k:Int):(nS ts s k).nd=true:=by
 cases s with
 | g i=>rw[Lj];cases vu ts k i<;>rfl
 | _=>rfl
theorem Jc {k:Int} {i:Nat} (a:k≠0) (h:vu ts k i=true):i<ts.length:=by
 unfold vu at h;simp only[No,aRi]at h;exact lC (by rw[h.1];exact a)
theorem qY {s:JS} (hs:s.Ok ts) {k:Int} (a:k≠0):(nS ts s k).Ok ts:=by
 cases s with
 | g i=>
  rw[Lj];cases h:vu ts k i with
  | true=>exact Jc a h
  | false=>exact hs
 | b j=>exact hs
 | d j=>exact aRL hs.1
theorem jr (H:Tk ts e) (s:JS) (k:Int):(nT ts s k).length<=4000:=by
 cases s with
 | g i=>
  rw[Y7];cases vu ts k i with
  | true=>exact uO H i
  | false=>exact aRV _
 | _=>exact aRV _
theorem Ew {i:Nat} (h:i<4001):bq (bq ((i:Int)+1) - 1)=(i:Int):=by rw[ca aUE];rw[wW aUE aUE];omega
theorem nu (H:Tk ts e) (s:JS) (hs:s.Ok ts) (k:Int) (c:k≠0:=by decide):bT (pS ts e s) k=some (nT ts s k,pS ts e (nS ts s k)):=by
 have l:=H.len;unfold bT;rw[dz H s hs _ _ c,sb];cases s with
 | g i=>
  have hi:i<=ts.length:=hs;have h:aS ts (.g i) 0 k []=(kd ts i==k):=by show(kd ts i==k&&true)=_;rw[aRE]
  rw[h];rw[Lj,Y7];unfold vu;cases a:kd ts i==k with
  | false=>
   simp only[atX,aRc];rw[qZ H _ hs];rfl
  | true=>
   have f:i<ts.length:=lC (by rw[aRi]at a;rw[a];exact c);dsimp only;rw[At rfl];show(idx ts (i:Int)>>=_)=_;rw[fJ f,sb,Sw,sb];cases hg:good (tok ts i).al with
   | true=>
    rw[At rfl];show(idx ts (bq (bq ((i:Int)+1) - 1))>>=_)=_;rw[Ew aUE,fJ f,sb,re H hs];unfold tx;rw[hg];rfl
   | false=>
    simp only[atX,aRc];rw[qZ H _ hs,sb];unfold tx;rw[hg];rfl
 | b j=>simp only[aS,atX,aRc];rw[qZ H _ hs];rfl
 | d j=>simp only[aS,atX,aRc];rw[qZ H _ hs];rfl
theorem Pf (H:Tk ts e) (s:JS) (hs:s.Ok ts):fu (pS ts e s)=some (.mk 4 0 (nT ts s 2) [],pS ts e (nS ts s 2)):=by unfold fu;rw[nu H s hs 2,sb]
theorem abQ (H:Tk ts e) (s:JS) (hs:s.Ok ts) (o:Nat) (ho:o<=10):cC (qS ts e' s) (o:Int)=some (tok ts (s.pos+o),qS ts e' s):=by
 have f:=H.len
 have hp:s.pos<=ts.length:=by
  cases s with
  | g i=>exact hs
  | b i=>exact hs
  | d i=>exact aRL hs.1
 have a:(qS ts e' s).bF=(s.pos:Int):=by cases s<;>rfl
 have e2:(qS ts e' s).aq=ts:=by cases s<;>rfl
 have c:bq ((s.pos:Int)+(o:Int))=((s.pos+o:Nat):Int):=by rw[wW aUE aUE];omega
 unfold cC;rw[a,e2,c];by_cases h:s.pos+o<ts.length
 ·rw[At aUE,fJ h,sb]
 ·rw[As aUE,uM h]
theorem qi (H:Tk ts e) (s:JS) (hs:s.Ok ts):cC (qS ts e' s) 0=some (tok ts s.pos,qS ts e' s):=abQ H s hs 0 aUE
theorem aqW (H:Tk ts e) (s:JS) (hs:s.Ok ts):cC (qS ts e' s) 1=some (tok ts (s.pos+1),qS ts e' s):=abQ H s hs 1 aUE
theorem iIs (H:Tk ts e) (s:JS) (hs:s.Ok ts) (o:Nat) (ho:o<=10) (w:av):ba (qS ts e' s) (o:Int) w=some (tw ts (s.pos+o) w,qS ts e' s):=by
 unfold ba tw kd tx;rw[abQ H s hs o ho,sb];dsimp only;by_cases a:(tok ts (s.pos+o)).ah=6
 ·rw[At a,a];rfl
 ·rw[As a,an.2 a,aRy];by_cases b:(tok ts (s.pos+o)).ah=3
  ·rw[At b,b];rfl
  ·rw[As b,an.2 b];rfl
theorem fF (H:Tk ts e) (s:JS) (hs:s.Ok ts) (w:av):ba (qS ts e' s) 0 w=some (tw ts s.pos w,qS ts e' s):=iIs H s hs 0 aUE w
theorem aez (H:Tk ts e) (s:JS) (hs:s.Ok ts) (w:av):ba (qS ts e' s) 1 w=some (tw ts (s.pos+1) w,qS ts e' s):=iIs H s hs 1 aUE w
theorem aLr (H:Tk ts e) (s:JS) (hs:s.Ok ts) (w:av):ba (qS ts e' s) 2 w=some (tw ts (s.pos+2) w,qS ts e' s):=iIs H s hs 2 aUE w
theorem qv (H:Tk ts e) {i:Nat} (h:i<=ts.length):ak.mk (qS ts e' (.g i)).aq (bq ((qS ts e' (.g i)).bF+1)) (qS ts e' (.g i)).ay (qS ts e' (.g i)).ax=qS ts e' (.g (i+1)):=by
 have:=H.len;show ak.mk ts (bq ((i:Int)+1)) e' false=⟨ts,((i+1:Nat):Int),e',false⟩;rw[ca aUE]
theorem aF (H:Tk ts e) {s:JS} (hs:s.Ok ts) {w:av} (h:tS ts s w=false) (hw:(w==([61]:av))=false\/s.nd=true:=by exact .inl aUF):ar (qS ts e' s) w=some (false,qS ts e' s):=by
 unfold ar;cases s with
 | g i=>
  have h:tw ts i w=false:=h;rw[As aVb,fF H _ hs,sb];show(if tw ts i w=true then _ else _)=_;rw[h];rfl
 | b j=>rfl
 | d j=>
  have hw:(w==([61]:av))=false:=hw.resolve_right (by simp [JS.nd]);rw[As aVb,fF H _ hs,sb];show(if tw ts j w=true then _ else _)=_;rw[dK hs.2 (by rw[aSV]at hw ⊢;intro hh;apply hw;rw[aRi]at hh ⊢;exact hh.symm)];rfl
theorem bL (H:Tk ts e) {i:Nat} {w:av} (h:tw ts i w=true):ar (qS ts e' (.g i)) w=some (true,qS ts e' (.g (i+1))):=by
 have hs:(JS.g i).Ok ts:=aRL (cd h);unfold ar;rw[As aVb,fF H _ hs,sb];show(if tw ts i w=true then _ else _)=_;rw[h,At rfl,qv H hs]
theorem SN {s:JS}:ak.mk (qS ts e' s).aq (qS ts e' s).bF (qS ts e' s).ay true=qS ts e' (ND s):=by cases s<;>rfl
theorem eY (H:Tk ts e) (s:JS) (hs:s.Ok ts) (w:av) (hw:(w==([61]:av))=false\/s.nd=true:=by exact .inl aUF):aO (qS ts e' s) w=some (qS ts e' (wS ts s w)):=by
 unfold aO;rcases I6 (ts:=ts) s w with h | ⟨i,rfl,h⟩
 ·rw[aF H hs h hw,sb];simp only[atX,aRc];rw[kD h,SN]
 ·rw[bL H h,sb,DP,h];rfl
theorem nM (H:Tk ts e) (s:JS) (hs:s.Ok ts) (hd:s.nd=true) (k:Int) (f:k=2\/k=3):bE (qS ts e' s) k=some (nT ts s k,qS ts e' (nS ts s k)):=by
 unfold bE;rw[qi H s hs,sb];cases s with
 | g i=>
  have hi:i<=ts.length:=hs;dsimp only;rw[As aVb];show(if kd ts i=k then _ else _)=_;rw[Y7,Lj];unfold vu;by_cases a:kd ts i=k
  ·have step:(bK (tok ts i).al>>=λh=>(if h=true then some ((tok ts i).al,(ak.mk (qS ts e' (.g i)).aq (bq ((qS ts e' (.g i)).bF+1)) (qS ts e' (.g i)).ay (qS ts e' (.g i)).ax))else some ([],(ak.mk (qS ts e' (.g i)).aq (qS ts e' (.g i)).bF (qS ts e' (.g i)).ay true))))=
     some ((bif good (tx ts i)then tx ts i else[]),qS ts e' (bif good (tx ts i)then .g (i+1)else .b i)):=by
    rw[tR,sb,qv H hi];unfold tx;cases good (tok ts i).al<;>rfl
   have c:(kd ts i==k)=true:=by rw[a];exact aSZ k
   rw[At a,c,aSn];rcases f with rfl | rfl
   ·rw[As aUF,At rfl];exact step
   ·rw[At rfl];exact step
  ·have c:(kd ts i==k)=false:=an.2 a;rw[As a,c];rfl
 | b j=>rfl
 | d j=>cases hd
theorem Pg (H:Tk ts e) (s:JS) (hs:s.Ok ts) (hd:s.nd=true):cM (qS ts e' s)=some (.mk 4 0 (nT ts s 2) [],qS ts e' (nS ts s 2)):=by unfold cM;rw[nM H s hs hd 2 (.inl rfl),sb]
end
end Go.Am
