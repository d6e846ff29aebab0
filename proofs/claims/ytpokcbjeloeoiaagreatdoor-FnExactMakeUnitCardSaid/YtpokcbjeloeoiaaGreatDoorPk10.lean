/- Texts of the proof, joined and shortened. -/
import Derived.Test.YtpokcbjeloeoiaaGreatDoorPk9
import Derived.Lib.AtoiTie
import Derived.Lib.IndexMore
set_option linter.unusedVariables false
set_option linter.unusedSimpArgs false
set_option synthInstance.maxHeartbeats 400000
set_option synthInstance.maxSize 4000
set_option maxRecDepth 100000
namespace Go.Am
open Go Go.RowKit Go.Proofs
def jZ (a0:aH):Option nL:=(aD a0 [112,114,105,118,97,116,101]>>=λ(B,a)=>(if B then some (a.fT,a.fI,a.ax,a.aw,1)else some (a.fT,a.fI,a.ax,a.aw,0)):Option ((List aj)×Int×Int×Int×Int))>>=λ(C,D,E,F,y5)=>bq (aH.mk C D E F) 0 2 []>>=λ(G,w)=>if G then cw w 2>>=λ(c,H)=>aD H [61]>>=λ(g,d)=>if g then bq d 0 4 []>>=λ(h,x)=>if h then aP x>>=λ(i,j)=>aQ j [59]>>=λI=>some ((ae.mk 54 y5 c ([i]:List ae)),I)else bq x 0 5 []>>=λ(k,y)=>if k then aP y>>=λ(l,J)=>aQ J [59]>>=λm=>some ((ae.mk 54 y5 c ([l]:List ae)),m)else bq y 0 3 [110,117,108,108]>>=λ(K,z)=>if K then aP z>>=λ(n,L)=>aQ L [59]>>=λo=>some ((ae.mk 54 y5 c ([n]:List ae)),o)else bq z 0 3 [116,114,117,101]>>=λ(M,e)=>if M then aP e>>=λ(p,N)=>aQ N [59]>>=λq=>some ((ae.mk 54 y5 c ([p]:List ae)),q)else bq e 0 3 [102,97,108,115,101]>>=λ(r,A)=>if r then aP A>>=λ(O,s)=>aQ s [59]>>=λP=>some ((ae.mk 54 y5 c ([O]:List ae)),P)else dw A>>=λ(Q,R)=>some (Q,R)else aQ d [59]>>=λt=>some ((ae.mk 54 y5 c ([(ae.mk 3 0 [] [])]:List ae)),t)else(aD w [115,116,97,116,105,99]>>=λ(S,b)=>(if S then some (b.fT,b.fI,b.ax,b.aw,bm (y5+2))else some (b.fT,b.fI,b.ax,b.aw,y5)):Option ((List aj)×Int×Int×Int×Int))>>=λ(T,U,V,W,X)=>aQ (aH.mk T U V W) [102,117,110,99,116,105,111,110]>>=λY=>cw Y 3>>=λ(f,Z)=>fh Z 24 ([]:List ae)>>=λ(xe,u)=>cb u>>=λ(QY,Mo)=>cQ 56 xe [QY]>>=λv=>some ((ae.mk 55 X f v),Mo)
theorem EK {a0:aH} {r:ae×aH} {ai:Nat} (h:jZ a0=some r):IP 72 a0 r ai:=by
 refine dY Tryz.func72 ?_;unfold jZ at h;refine .d (.d ⟨rfl,_,_,rfl,al,?_⟩);obtain⟨o6,h,wX⟩:=bd h;refine .cut (λσ η=>∃s,∃u,∃v,∃w,∃y5,(s,u,v,w,y5)=o6/\σ=[(0,.aA 0 ai 0 0),(2,.aA 1 0 0 0),(3,.aA 3 0 0 0)]/\η=[.row ai 4 1 41 (λ_=>[sl 4 aj.cells s,pI u,pI v,pI w]),.row 0 4 1 24 (λ_=>[pI 0,pI 0,.str [],.own 2 0 0 0]),.row 0 4 0 24 (λ_=>[]),.row 0 4 1 24 (λ_=>[pI 54,pI y5,.str [],.own 4 0 0 0]),.row 0 4 0 24 (λ_=>[])]) ?_ ?_;refine .d ?_;obtain⟨⟨v9,a4⟩,Ep,h⟩:=bd h;refine bN (aU Ep) [0] ?_;refine sV h (λnf h=>?_) (λnf h=>?_);exact⟨rfl,rfl,_,_,rfl,al,(ct ⟨_,_,_,_,_,si h,rfl,rfl⟩ (tk [0,1,5,2,7] iB Xs))⟩;exact ct ⟨_,_,_,_,_,si h,rfl,rfl⟩ (tk [0,1,5,2,7] iB Xs);rintro _ _ ⟨s,u,v,w,y5,rfl,rfl,rfl⟩;replace h:=wX;refine .d (.d ?_);obtain⟨⟨qJ,rP⟩,Ey,h⟩:=bd h;refine bN (de Ey) [0] ?_;refine sV h (λmZ h=>?_) (λmZ h=>?_);refine .d ?_;obtain⟨⟨u6,X6⟩,QB,h⟩:=bd h;refine bN (ee QB) [0] ?_;refine⟨rfl,rfl,_,_,rfl,al,(.d ⟨(jY [[pI 3,pI 0,.str [],.eg 4 0 24 (λ_=>[]) (λ_=>False)]]),(ZY (xa rfl ⟨.same _,.same _,.same _,.Dw _ _ _,trivial⟩ trivial)),rfl,rfl,_,_,rfl,al,(.d (.d ?_))⟩)⟩;obtain⟨⟨a5,a6⟩,EG,h⟩:=bd h;refine bN (aU EG) [0] ?_;refine sV h (λsK h=>?_) (λsK h=>?_);refine .d (.d ?_);obtain⟨⟨a8,D2⟩,ZZ,h⟩:=bd h;refine bN (de ZZ) [0] ?_;refine gp h (λBU h=>?_) (λBU h=>?_);refine .t ?_;obtain⟨⟨a9,VK⟩,Z0,h⟩:=bd h;refine bN (de Z0) [0] ?_;refine .t (.t (gp h (λBX h=>?_) (λBX h=>?_)));refine .t ?_;obtain⟨⟨zx,Hi⟩,ZH,h⟩:=bd h;refine bN (de ZH) [0] ?_;refine .t (.t (gp h (λyC h=>?_) (λyC h=>?_)));refine .t ?_;obtain⟨⟨L5,bg⟩,y,h⟩:=bd h;refine bN (de y) [0] ?_;refine .t (.t (gp h (λBZ h=>?_) (λBZ h=>?_)));refine .t ?_;obtain⟨⟨bj,BO⟩,Z1,h⟩:=bd h;refine bN (de Z1) [0] ?_;refine .t (.t (gp h (λKy h=>?_) (λKy h=>?_)));refine .d ?_;obtain⟨⟨wZ,wc⟩,QJ,h⟩:=bd h;refine bp (fA (ai:=ai) QJ) [0] λz A=>?_;refine⟨rfl,_,_,rfl,al,?_⟩;obtain rfl:=si h;refine⟨rfl,_,rfl,?_⟩;have bo:=(DR.bZ (ae.bn (x:=(ae.mk 3 0 [] [])) (F0:=(λ_=>False)) DR.nil) DR.du);exact en [0,6] ⟨z,A.self,rfl,rfl⟩ eW mX;obtain⟨⟨Ds,br⟩,Z2,h⟩:=bd h;refine bp (k7 (ai:=ai) Z2) [0] λbt c=>?_;refine⟨_,cC,rfl,rfl,_,_,rfl,al,(.d (bk h λQX QZ h=>(bN (aZ QZ) [0] ?_)))⟩;refine .d ⟨rfl,_,rfl,rfl,_,_,rfl,al,?_⟩;obtain rfl:=si h;refine⟨rfl,_,rfl,(.ab 7 0 3 6 _ (λ_=>iz (c).po) λB=>?_)⟩;have bw:=(DR.bZ (ae.bn (x:=(ae.mk 3 0 [] [])) (F0:=(λ_=>False)) DR.nil) DR.du);have C:=(DR.bZ (ae.bn (x:=Ds) (F0:=B) c) DR.du);exact en [0,7] (rs C) eW mX;refine .f (.f (.f (.f ?_)));obtain⟨⟨E,EE⟩,Zy,h⟩:=bd h;refine bp (k7 (ai:=ai) Zy) [0] λbD e=>?_;refine⟨_,cC,rfl,rfl,_,_,rfl,al,(.d (bk h λb0 F h=>(bN (aZ F) [0] ?_)))⟩;refine .d ⟨rfl,_,rfl,rfl,_,_,rfl,al,?_⟩;obtain rfl:=si h;refine⟨rfl,_,rfl,(.ab 7 0 3 6 _ (λ_=>iz (e).po) λG=>?_)⟩;have b1:=(DR.bZ (ae.bn (x:=(ae.mk 3 0 [] [])) (F0:=(λ_=>False)) DR.nil) DR.du);have H:=(DR.bZ (ae.bn (x:=E) (F0:=G) e) DR.du);exact en [0,7] (rs H) eW mX;refine .f (.f (.f (.f (.f (.f (.f (.f ?_)))))));obtain⟨⟨I,X7⟩,QH,h⟩:=bd h;refine bp (k7 (ai:=ai) QH) [0] λb2 g=>?_;refine⟨_,cC,rfl,rfl,_,_,rfl,al,(.d (bk h λb3 XY h=>(bN (aZ XY) [0] ?_)))⟩;refine .d ⟨rfl,_,rfl,rfl,_,_,rfl,al,?_⟩;obtain rfl:=si h;refine⟨rfl,_,rfl,(.ab 7 0 3 6 _ (λ_=>iz (g).po) λJ=>?_)⟩;have b4:=(DR.bZ (ae.bn (x:=(ae.mk 3 0 [] [])) (F0:=(λ_=>False)) DR.nil) DR.du);have K:=(DR.bZ (ae.bn (x:=I) (F0:=J) g) DR.du);exact en [0,7] (rs K) eW mX;refine .f (.f (.f (.f (.f (.f (.f (.f (.f (.f (.f (.f ?_)))))))))));obtain⟨⟨L,B6⟩,Z3,h⟩:=bd h;refine bp (k7 (ai:=ai) Z3) [0] λb5 i=>?_;refine⟨_,cC,rfl,rfl,_,_,rfl,al,(.d (bk h λb6 Kp h=>(bN (aZ Kp) [0] ?_)))⟩;refine .d ⟨rfl,_,rfl,rfl,_,_,rfl,al,?_⟩;obtain rfl:=si h;refine⟨rfl,_,rfl,(.ab 7 0 3 6 _ (λ_=>iz (i).po) λM=>?_)⟩;have b7:=(DR.bZ (ae.bn (x:=(ae.mk 3 0 [] [])) (F0:=(λ_=>False)) DR.nil) DR.du);have N:=(DR.bZ (ae.bn (x:=L) (F0:=M) i) DR.du);exact en [0,7] (rs N) eW mX;refine .f (.f (.f (.f (.f (.f (.f (.f (.f (.f (.f (.f (.f (.f (.f ?_))))))))))))));refine .f ?_;obtain⟨⟨O,b9⟩,P,h⟩:=bd h;refine bp (k7 (ai:=ai) P) [0] λcf j=>?_;refine⟨_,cC,rfl,rfl,_,_,rfl,al,(.d (bk h λQW Q h=>(bN (aZ Q) [0] ?_)))⟩;refine .d ⟨rfl,_,rfl,rfl,_,_,rfl,al,?_⟩;obtain rfl:=si h;refine⟨rfl,_,rfl,(.ab 7 0 3 6 _ (λ_=>iz (j).po) λR=>?_)⟩;have ch:=(DR.bZ (ae.bn (x:=(ae.mk 3 0 [] [])) (F0:=(λ_=>False)) DR.nil) DR.du);have S:=(DR.bZ (ae.bn (x:=O) (F0:=R) j) DR.du);exact en [0,7] (rs S) eW mX;refine .d (bk h λcl T h=>(bN (aZ T) [0] ?_));refine .d ⟨rfl,_,rfl,rfl,_,_,rfl,al,?_⟩;obtain rfl:=si h;refine⟨rfl,_,rfl,?_⟩;have k:=(DR.bZ (ae.bn (x:=(ae.mk 3 0 [] [])) (F0:=(λ_=>False)) DR.nil) DR.du);exact en [0,5] (rs k) eW mX;refine .d ⟨rfl,rfl,_,_,rfl,al,?_⟩;obtain⟨U,h,V⟩:=bd h;refine .cut (λσ η=>∃W,∃X,∃Y,∃Z,∃q,(W,X,Y,Z,q)=U/\σ=[(0,.aA 0 ai 0 0),(2,.aA 1 0 0 0),(3,.aA 3 0 0 0)]/\η=[.row ai 4 1 41 (λ_=>[sl 4 aj.cells W,pI X,pI Y,pI Z]),.row 0 4 1 24 (λ_=>[pI 0,pI 0,.str [],.own 2 0 0 0]),.row 0 4 0 24 (λ_=>[]),.row 0 4 1 24 (λ_=>[pI 55,pI q,.str [],.own 4 0 0 0]),.row 0 4 0 24 (λ_=>[])]) ?_ ?_;refine .d ?_;obtain⟨⟨HJ,zs⟩,Mv,h⟩:=bd h;refine bN (aU Mv) [0] ?_;refine sV h (λMw h=>?_) (λMw h=>?_);exact⟨rfl,rfl,_,rfl,rfl,rfl,_,_,rfl,al,(ct ⟨_,_,_,_,_,si h,rfl,rfl⟩ (tk [0,1,2,3,4] iB auh))⟩;exact ct ⟨_,_,_,_,_,si h,rfl,rfl⟩ (tk [0,1,2,3,4] iB auh);rintro _ _ ⟨W,X,Y,Z,q,rfl,rfl,rfl⟩;refine .d (bk V λDv EL h=>(bN (aZ EL) [0] ?_));refine .d ?_;obtain⟨⟨l,VM⟩,aa,h⟩:=bd h;refine bN (ee aa) [0] ?_;refine⟨rfl,rfl,_,_,rfl,al,(.d (pcN 2 (a1:=[.aA 0 ai 0 0,pI 24,.own 5 0 0 0]) (h2:=[.row ai 4 1 41 (λ_=>VM.lit),.row 0 4 1 24 (λ_=>[pI 0,pI 0,.str [],.own 2 0 0 0]),.row 0 4 0 24 (λ_=>[]),.row 0 4 1 24 (λ_=>[pI 55,pI q,.str l,.own 4 0 0 0]),.row 0 4 0 24 (λ_=>[]),.row 0 4 0 24 (λ_=>[])]) ?_))⟩;obtain⟨⟨xe,cq⟩,ad,h⟩:=bd h;refine MP (oK (ai:=ai) (bJ:=0) ad (DR.nil (D:=ae.D))) [0,5] ⟨rfl,(L6 (DR.nil (D:=ae.D))),⟨⟩⟩ λm a=>?_;refine⟨rfl,rfl,_,_,rfl,al,(.d (.float [(0,true),(1,true),(2,true),(3,false),(4,false),(5,false),(6,true),(7,false)] aRP ?_))⟩;refine⟨rfl,rfl,_,rfl,?_⟩;obtain⟨⟨n,Mo⟩,YE,h⟩:=bd h;refine bp (yV (ai:=ai) YE) [0] λa3 b=>?_;refine⟨rfl,rfl,_,b8,rfl,rfl,(bk h λag o h=>(.ez ⟨rfl,rfl,(λ_ _=>rfl),DR.tL a o,ag.length,cp m xe.length [pI n.ah,pI n.aF,.str n.ak,.own 7 0 0 n.af.length],DR.ln a o,cr (DR.ln a o) ⟨.same _,.same _,.same _,.same _,trivial⟩,rfl,rfl,_,_,rfl,al,(.d ⟨rfl,_,rfl,rfl,_,_,rfl,al,?_⟩)⟩))⟩;obtain rfl:=si h;refine⟨rfl,_,rfl,(.ab 6 xe.length 3 7 _ (λ_=>qK (DR.lq a o) (b).po) λa2=>?_)⟩;have p:=DR.gT a o (ae.bn (x:=n) (F0:=a2) b);exact en [0,6] (rs p) eW mX
def eN (e:List aj) (f:Int) (g:Int) (h:Int) (d:List ae):Option Dx:=aD (aH.mk e f g h) [117,115,101]>>=λ(i,a)=>if i then cw a 3>>=λ(c,j)=>cQ 56 d [(ae.mk 53 0 c [])]>>=λk=>aQ j [59]>>=λb=>eN b.fT b.fI b.ax b.aw k else some (a.fT,a.fI,a.ax,a.aw,d) partial_fixpoint
def eO (c:List aj) (i:Int) (d:Int) (b:Int) (f:List ae):Option Dx:=if b<0 then aD (aH.mk c i d b) [125]>>=λ(g,a)=>if g then some (a.fT,a.fI,a.ax,a.aw,f)else jZ a>>=λ(j,e)=>cQ 56 f [j]>>=λh=>eO e.fT e.fI e.ax e.aw h else some (c,i,d,b,f) partial_fixpoint
def mC (a0:aH) (a1:Int):Option nL:=cw a0 3>>=λ(j,c)=>((if a1=50 then aD c [101,120,116,101,110,100,115]>>=λ(k,d)=>if k then cw d 3>>=λ(l,a)=>must (1*56<=140737488355328)>>=λ_=>some (a.fT,a.fI,a.ax,a.aw,[(ae.mk 52 0 l [])])else some (d.fT,d.fI,d.ax,d.aw,([]:List ae))else some (c.fT,c.fI,c.ax,c.aw,([]:List ae))):Option Dx)>>=λ(m,y5,y6,n,o)=>aQ (aH.mk m y5 y6 n) [123]>>=λb=>(eN b.fT b.fI b.ax b.aw o:Option Dx)>>=λ(p,q,r,e,s)=>(eO p q r e s:Option Dx)>>=λ(f,g,h,i,t)=>some ((ae.mk a1 0 j t),(aH.mk f g h i))
theorem yW {a0:aH} {a1:Int} {r:ae×aH} {ai:Nat} (h:mC a0 a1=some r):auk 38 a0 a1 r ai:=by
 refine dY Tryz.func38 ?_;unfold mC at h;refine .d (.d ?_);obtain⟨⟨B,v2⟩,tI,h⟩:=bd h;refine bN (ee tI) [0] ?_;refine rF (bC _ _ _ _ rfl) ⟨rfl,_,_,rfl,al,?_⟩;obtain⟨PO,h,Z5⟩:=bd h;refine .cut (λσ η=>∃Q,∃y5,∃y6,∃R,∃m,∃M:Nat->List PV,DR ae.D m.length M m/\(Q,y5,y6,R,m)=PO/\σ=[(0,.aA 0 ai 0 0),(4,.aA 1 0 0 0),(5,.aA 3 0 0 0)]/\η=[.row ai 4 1 41 (λ_=>[sl 4 aj.cells Q,pI y5,pI y6,pI R]),.row 0 4 1 24 (λ_=>[pI 0,pI 0,.str [],.own 2 0 0 0]),.row 0 4 0 24 (λ_=>[]),.row 0 4 1 24 (λ_=>[pI a1,pI 0,.str B,.own 4 0 0 m.length]),.row 0 4 m.length 24 M]) ?_ ?_;refine .d (sE h (λot h=>?_) (λot h=>?_));refine .t ?_;obtain⟨⟨Au,sL⟩,Er,h⟩:=bd h;refine bN (aU Er) [0] ?_;refine .t (sV h (λwD h=>?_) (λwD h=>?_));refine .float [(0,true),(1,true),(2,true),(3,false),(4,false),(5,false),(6,false),(7,true),(8,false)] aRP ?_;refine⟨rfl,rfl,_,rfl,?_⟩;obtain⟨⟨y,bg⟩,Qd,h⟩:=bd h;refine bN (ee Qd) [0] ?_;refine⟨rfl,rfl,(rF (bC _ _ _ _ rfl) ⟨rfl,rfl,_,b8,rfl,rfl,?_⟩)⟩;obtain⟨_,S,h⟩:=bd h;refine .ez ⟨rfl,(λ_ _=>rfl),yg S,1,cp (λ_=>[]) 0 [pI 52,pI 0,.str y,.eg 4 0 24 (λ_=>[]) (λ_=>False)],rfl,KB rfl ⟨.same _,.same _,.same _,.Dw _ _ _,trivial⟩,rfl,rfl,_,_,rfl,al,?_⟩;have T:DR ae.D 1 (cp (λ_=>[]) 0 [pI 52,pI 0,.str y,.eg 4 0 24 (λ_=>[]) (λ_=>False)]) [(ae.mk 52 0 y [])]:=DR.app DR.nil (ae.bn (x:=(ae.mk 52 0 y [])) DR.nil:ae.D [pI 52,pI 0,.str y,.eg 4 0 24 (λ_=>[]) (λ_=>False)] (ae.mk 52 0 y []));exact ct ⟨_,_,_,_,_,_,T.self,si h,rfl,rfl⟩ (tk [0,1,7,2,4] iB Hk);exact ct ⟨_,_,_,_,_,_,(DR.nil (D:=ae.D)).self,si h,rfl,rfl⟩ (tk [0,1,5,2,7] iB Xs);exact .f (.f (.f (ct ⟨_,_,_,_,_,_,(DR.nil (D:=ae.D)).self,si h,rfl,rfl⟩ (tk [0,1,5,2,7] iB Xs))));rintro _ _ ⟨Q,y5,y6,R,m,M,U,rfl,rfl,rfl⟩;refine .d (bk Z5 λg Q1 h=>(bN (aZ Q1) [0] ?_));obtain⟨n,h,V⟩:=bd h;refine .cut (λσ η=>∃N,∃O,∃P,∃i,∃o,∃j:Nat->List PV,DR ae.D o.length j o/\(N,O,P,i,o)=n/\σ=[(0,.aA 0 ai 0 0),(4,.aA 1 0 0 0),(5,.aA 3 0 0 0)]/\η=[.row ai 4 1 41 (λ_=>[sl 4 aj.cells N,pI O,pI P,pI i]),.row 0 4 1 24 (λ_=>[pI 0,pI 0,.str [],.own 2 0 0 0]),.row 0 4 0 24 (λ_=>[]),.row 0 4 1 24 (λ_=>[pI a1,pI 0,.str B,.own 4 0 0 o.length]),.row 0 4 o.length 24 j]) ?_ ?_;refine le (eN.partial_correctness  (motive:=λQM PW Hj Kz z C=>∀c:Nat->List PV,DR ae.D z.length c z->n=C->aG _ _ [(0,.aA 0 ai 0 0),(4,.aA 1 0 0 0),(5,.aA 3 0 0 0)] [.row ai 4 1 41 (λ_=>[sl 4 aj.cells QM,pI PW,pI Hj,pI Kz]),.row 0 4 1 24 (λ_=>[pI 0,pI 0,.str [],.own 2 0 0 0]),.row 0 4 0 24 (λ_=>[]),.row 0 4 1 24 (λ_=>[pI a1,pI 0,.str B,.own 4 0 0 z.length]),.row 0 4 z.length 24 c]) ?_ g.fT g.fI g.ax g.aw m n h M U rfl) (tk [0,1,2,3,4] iB tz6);intro bj W QM PW Hj Kz z C h c e X;subst X;refine aG.round (.d (.d ?_));obtain⟨⟨wc,bo⟩,Z6,h⟩:=bd h;refine bN (aU Z6) [0] ?_;refine sV h (λQ2 h=>?_) (λQ2 h=>?_);refine .d (.float [(0,true),(1,true),(2,true),(3,false),(4,false),(5,false),(6,false),(7,true),(8,false)] aRP ?_);refine⟨rfl,rfl,_,rfl,?_⟩;obtain⟨⟨E,Ds⟩,Kt,h⟩:=bd h;refine bN (ee Kt) [0] ?_;refine⟨rfl,rfl,(rF (bC _ _ _ _ rfl) ⟨rfl,rfl,_,b8,rfl,rfl,(bk h λZ4 k h=>(.ez ⟨rfl,rfl,(λ_ _=>rfl),DR.tL e k,Z4.length,cp c z.length [pI 53,pI 0,.str E,.eg 4 0 24 (λ_=>[]) (λ_=>False)],DR.ln e k,cr (DR.ln e k) ⟨.same _,.same _,.same _,.Dw _ _ _,trivial⟩,rfl,rfl,_,_,rfl,al,(bk h λXM XS h=>(bN (aZ XS) [0] ?_))⟩))⟩)⟩;have Y:=DR.gT e k (ae.bn (x:=(ae.mk 53 0 E [])) (F0:=(λ_=>False)) DR.nil);exact lg (W _ _ _ _ _ _ h _ Y rfl) (tk [0,1,2,3,4] iB tz6);exact ct ⟨_,_,_,_,_,c,e,si h,rfl,rfl⟩ (tk [0,1,2,3,4] iB tz6);rintro _ _ ⟨N,O,P,i,o,j,Z,rfl,rfl,rfl⟩;obtain⟨p,h,aa⟩:=bd V;refine .cut (λσ η=>∃q,∃s,∃u,∃v,∃A,∃l:Nat->List PV,DR ae.D A.length l A/\(q,s,u,v,A)=p/\σ=[(4,.aA 1 0 0 0),(5,.aA 3 0 0 0)]/\η=[.row ai 4 1 41 (λ_=>[sl 4 aj.cells q,pI s,pI u,pI v]),.row 0 4 1 24 (λ_=>[pI 0,pI 0,.str [],.own 2 0 0 0]),.row 0 4 0 24 (λ_=>[]),.row 0 4 1 24 (λ_=>[pI a1,pI 0,.str B,.own 4 0 0 A.length]),.row 0 4 A.length 24 l]) ?_ ?_;refine le (eO.partial_correctness  (motive:=λF Vp G H w I=>∀b:Nat->List PV,DR ae.D w.length b w->p=I->aG _ _ [(0,.aA 0 ai 0 0),(4,.aA 1 0 0 0),(5,.aA 3 0 0 0)] [.row ai 4 1 41 (λ_=>[sl 4 aj.cells F,pI Vp,pI G,pI H]),.row 0 4 1 24 (λ_=>[pI 0,pI 0,.str [],.own 2 0 0 0]),.row 0 4 0 24 (λ_=>[]),.row 0 4 1 24 (λ_=>[pI a1,pI 0,.str B,.own 4 0 0 w.length]),.row 0 4 w.length 24 b]) ?_ N O P i o p h j Z rfl) (tk [0,1,2,3,4] iB tz6);intro br ad F Vp G H w I h b a ag;subst ag;refine aG.round (.d (.d ⟨rfl,rfl,rfl,_,rfl,(sD h (λZ7 h=>?_) (λZ7 h=>?_))⟩));refine .t ?_;obtain⟨⟨bt,bw⟩,a2,h⟩:=bd h;refine bN (aU a2) [0] ?_;refine .t (.t (gp h (λa3 h=>?_) (λa3 h=>?_)));refine .float [(0,true),(1,true),(2,true),(3,false),(4,false),(5,false),(6,true),(7,false)] aRP ?_;refine⟨rfl,rfl,_,rfl,?_⟩;obtain⟨⟨J,IQ⟩,a4,h⟩:=bd h;refine bp (EK (ai:=ai) a4) [0] λbD K=>?_;refine⟨rfl,rfl,_,b8,rfl,rfl,(bk h λa5 L h=>(.ez ⟨rfl,rfl,(λ_ _=>rfl),DR.tL a L,a5.length,cp b w.length [pI J.ah,pI J.aF,.str J.ak,.own 5 0 0 J.af.length],DR.ln a L,cr (DR.ln a L) ⟨.same _,.same _,.same _,.same _,trivial⟩,rfl,rfl,_,_,rfl,al,(.ab 4 w.length 3 5 _ (λ_=>qK (DR.lq a L) (K).po) λa6=>?_)⟩))⟩;have a8:=DR.gT a L (ae.bn (x:=J) (F0:=a6) K);exact lg (ad _ _ _ _ _ _ h _ a8 rfl) (tk [0,1,2,3,4] iB tz6);exact ct ⟨_,_,_,_,_,b,a,si h,rfl,rfl⟩ (tk [0,1,2,3,4] sQ tz6);exact .f (.f (.f (.f (ct ⟨_,_,_,_,_,b,a,si h,rfl,rfl⟩ (tk [0,1,2,3,4] sQ tz6)))));rintro _ _ ⟨q,s,u,v,A,l,a9,rfl,rfl,rfl⟩;replace h:=aa;refine .d ⟨rfl,_,rfl,rfl,_,_,rfl,al,?_⟩;obtain rfl:=si h;exact⟨rfl,_,rfl,(en [0,4] ⟨l,a9.self,rfl,rfl⟩ eW mX)⟩
def cd (j:List aj) (k:Int) (p:Int) (l:Int) (c:List ae) (d:List ae):Option ty9:=if l<0 then if k<(j.length:Int)then aD (aH.mk j k p l) [59]>>=λ(q,e)=>if q then cd e.fT e.fI e.ax e.aw c d else(bq e 0 3 [102,117,110,99,116,105,111,110]>>=λ(r,f)=>(if r then bq f 1 3 []>>=λ(C,m)=>some (m.fT,m.fI,m.ax,m.aw,C)else some (f.fT,f.fI,f.ax,f.aw,false)):Option VN)>>=λ(z,A,g,h,s)=>if s then cw (aH.mk z (bm (A+1)) g h) 3>>=λ(D,t)=>fh t 24 ([]:List ae)>>=λ(u,E)=>cb E>>=λ(F,n)=>cQ 56 u [F]>>=λG=>cQ 56 d [(ae.mk 49 0 D G)]>>=λH=>cd n.fT n.fI n.ax n.aw c H else aD (aH.mk z A g h) [99,108,97,115,115]>>=λ(v,i)=>if v then mC i 50>>=λ(w,a)=>cQ 56 d [w]>>=λI=>cd a.fT a.fI a.ax a.aw c I else aD i [116,114,97,105,116]>>=λ(J,B)=>if J then mC B 51>>=λ(K,b)=>cQ 56 d [K]>>=λx=>cd b.fT b.fI b.ax b.aw c x else bf B>>=λ(L,o)=>cQ 56 d [L]>>=λy=>cd o.fT o.fI o.ax o.aw c y else some (j,k,p,l,c,d)else some (j,k,p,l,c,d) partial_fixpoint
def ny (a0:aH):Option nL:=(cd a0.fT a0.fI a0.ax a0.aw ([]:List ae) ([]:List ae):Option ty9)>>=λ(a,b,c,d,f,e)=>some ((ae.mk 56 0 [] e),(aH.mk a b c d))
theorem EM {a0:aH} {r:ae×aH} {ai:Nat} (h:ny a0=some r):IP 17 a0 r ai:=by
 refine dY Tryz.func17 ?_;unfold ny at h;refine .d (.d (rF (bC _ _ _ _ rfl) ⟨rfl,_,_,rfl,al,?_⟩));obtain⟨R,h,Z5⟩:=bd h;refine .cut (λσ η=>∃S,∃T,∃U,∃V,∃u,∃v,∃W:Nat->List PV,∃P:Nat->List PV,DR ae.D u.length W u/\DR ae.D v.length P v/\(S,T,U,V,u,v)=R/\σ=[(2,.aA 1 0 0 0),(3,.aA 3 0 0 0)]/\η=[.row ai 4 1 41 (λ_=>[sl 4 aj.cells S,pI T,pI U,pI V]),.row 0 4 1 24 (λ_=>[pI 0,pI 0,.str [],.own 2 0 0 u.length]),.row 0 4 u.length 24 W,.row 0 4 1 24 (λ_=>[pI 56,pI 0,.str [],.own 4 0 0 v.length]),.row 0 4 v.length 24 P]) ?_ ?_;refine le (cd.partial_correctness ([]:List ae) (motive:=λw Q yT rG g y=>∀c:Nat->List PV,∀e:Nat->List PV,DR ae.D ([]:List ae).length c ([]:List ae)->DR ae.D g.length e g->R=y->aG _ _ [(0,.aA 0 ai 0 0),(2,.aA 1 0 0 0),(3,.aA 3 0 0 0)] [.row ai 4 1 41 (λ_=>[sl 4 aj.cells w,pI Q,pI yT,pI rG]),.row 0 4 1 24 (λ_=>[pI 0,pI 0,.str [],.own 2 0 0 ([]:List ae).length]),.row 0 4 ([]:List ae).length 24 c,.row 0 4 1 24 (λ_=>[pI 56,pI 0,.str [],.own 4 0 0 g.length]),.row 0 4 g.length 24 e]) ?_ a0.fT a0.fI a0.ax a0.aw ([]:List ae) R h (λ_=>[]) (λ_=>[]) ((DR.nil (D:=ae.D)).self) ((DR.nil (D:=ae.D)).self) rfl) (tk [0,1,5,2,7] iB Xs);intro b3 k w Q yT rG g y h c e j a X;subst X;refine aG.round (.d (.d ⟨rfl,rfl,rfl,_,rfl,(sD h (λyy h=>?_) (λyy h=>?_))⟩));refine .t ⟨rfl,(.t ⟨rfl,(.t ⟨rfl,_,rfl,(.t (.t ⟨rfl,(.t ⟨rfl,(.t ⟨rfl,_,rfl,(.t (.t ?_))⟩)⟩)⟩))⟩)⟩)⟩;refine .t (sD h (λBU h=>?_) (λBU h=>?_));refine .d ?_;obtain⟨⟨b4,VK⟩,Z0,h⟩:=bd h;refine bN (aU Z0) [0] ?_;refine sV h (λBX h=>?_) (λBX h=>?_);exact lg (k _ _ _ _ _ _ h c e j a rfl) (tk [0,1,2,3,4] iB pD);obtain⟨Y,h,Z⟩:=bd h;refine .cut (λσ η=>∃ZD,∃QS,∃o,∃q,∃s,(ZD,QS,o,q,s)=Y/\σ=[(0,.aA 0 ai 0 0),(2,.aA 1 0 0 0),(3,.aA 3 0 0 0),(12,.aA 0 ai 0 0),(13,.aA 0 ai 0 0),(14,.aA 0 ai 0 1),(15,pI Q),(16,.aA 0 ai 0 0),(17,.aA 0 ai 0 0),(18,.aA 0 ai 0 0),(19,sl 4 aj.cells w),(20,pI (w.length:Int)),(21,.bool (decide (Q<(w.length:Int)))),(33,.bool s)]/\η=[.row ai 4 1 41 (λ_=>[sl 4 aj.cells ZD,pI QS,pI o,pI q]),.row 0 4 1 24 (λ_=>[pI 0,pI 0,.str [],.own 2 0 0 ([]:List ae).length]),.row 0 4 ([]:List ae).length 24 c,.row 0 4 1 24 (λ_=>[pI 56,pI 0,.str [],.own 4 0 0 g.length]),.row 0 4 g.length 24 e]) ?_ ?_;obtain⟨⟨b5,BO⟩,Z1,h⟩:=bd h;refine bN (de Z1) [0] ?_;refine sV h (λKy h=>?_) (λKy h=>?_);refine .t ?_;obtain⟨⟨wZ,wc⟩,QJ,h⟩:=bd h;refine bN (de QJ) [0] ?_;exact .t (ct ⟨_,_,_,_,_,si h,rfl,rfl⟩ (tk [0,1,2,3,4] ⟨.p,.p,.p,.p,.p,.p,.i,.p,.p,.p,.l,.i,.b,.b,⟨⟩⟩ pD));exact .f (.f (ct ⟨_,_,_,_,_,si h,rfl,rfl⟩ (tk [0,1,2,3,4] ⟨.p,.p,.p,.p,.p,.p,.i,.p,.p,.p,.l,.i,.b,.b,⟨⟩⟩ pD)));rintro _ _ ⟨ZD,QS,o,q,s,rfl,rfl,rfl⟩;refine sV Z (λEF h=>?_) (λEF h=>?_);refine .d ⟨rfl,rfl,rfl,_,rfl,rfl,rfl,rfl,_,_,rfl,al,(.d ?_)⟩;obtain⟨⟨D3,aa⟩,Qk,h⟩:=bd h;refine bN (ee Qk) [0] ?_;refine rF (bC _ _ _ _ rfl) ⟨rfl,_,_,rfl,al,(.d (pcN 2 (a1:=[.aA 0 ai 0 0,pI 24,.own 6 0 0 0]) (h2:=[.row ai 4 1 41 (λ_=>aa.lit),.row 0 4 1 24 (λ_=>[pI 0,pI 0,.str [],.own 2 0 0 ([]:List ae).length]),.row 0 4 ([]:List ae).length 24 c,.row 0 4 1 24 (λ_=>[pI 56,pI 0,.str [],.own 4 0 0 g.length]),.row 0 4 g.length 24 e,.row 0 4 1 24 (λ_=>[pI 49,pI 0,.str D3,.ck]),.row 0 4 0 24 (λ_=>[])]) ?_))⟩;obtain⟨⟨z,uX⟩,Kd,h⟩:=bd h;refine MP (oK (ai:=ai) (bJ:=0) Kd (DR.nil (D:=ae.D))) [0,6] ⟨rfl,(L6 (DR.nil (D:=ae.D))),⟨⟩⟩ λad m=>?_;refine⟨rfl,rfl,_,_,rfl,al,(.d (.float [(0,true),(1,true),(2,true),(3,false),(4,false),(5,false),(6,true),(7,false)] aRP ?_))⟩;refine⟨rfl,rfl,_,rfl,?_⟩;obtain⟨⟨A,BW⟩,ag,h⟩:=bd h;refine bp (yV (ai:=ai) ag) [0] λb6 B=>?_;refine⟨rfl,rfl,_,b8,rfl,rfl,(bk h λZ8 C h=>(.ez ⟨rfl,rfl,(λ_ _=>rfl),DR.tL m C,Z8.length,cp ad z.length [pI A.ah,pI A.aF,.str A.ak,.own 8 0 0 A.af.length],DR.ln m C,cr (DR.ln m C) ⟨.same _,.same _,.same _,.same _,trivial⟩,rfl,rfl,_,_,rfl,al,rfl,rfl,_,rfl,rfl,_,rfl,_,b8,(bk h λL7 E h=>(.ez ⟨rfl,rfl,(λ_ _=>rfl),DR.tL a E,L7.length,cp e g.length [pI 49,pI 0,.str D3,.own 7 (0+1) 0 Z8.length],DR.ln a E,cr (DR.ln a E) ⟨.same _,.same _,.same _,.same _,trivial⟩,?_⟩))⟩))⟩;refine⟨rfl,rfl,_,_,rfl,al,(.ab 7 z.length 3 8 _ (λ_=>qK (DR.lq m C) (B).po) λa2=>?_)⟩;have F:=DR.gT m C (ae.bn (x:=A) (F0:=a2) B);refine .ab 4 g.length 3 7 _ (λ_=>qK (DR.lq a E) (F).po) λa3=>?_;have a4:=DR.gT a E (ae.bn (x:=(ae.mk 49 0 D3 Z8)) (F0:=a3) F);exact lg (k _ _ _ _ _ _ h c _ j a4 rfl) (tk [0,1,2,3,4] iB pD);refine .d ?_;obtain⟨⟨b7,b9⟩,a5,h⟩:=bd h;refine bN (aU a5) [0] ?_;refine sV h (λa6 h=>?_) (λa6 h=>?_);refine .float [(0,true),(1,true),(2,true),(3,false),(4,false),(5,false),(6,true),(7,false)] aRP ?_;refine⟨rfl,rfl,_,rfl,?_⟩;obtain⟨⟨n,cf⟩,a8,h⟩:=bd h;refine bp (yW (ai:=ai) a8) [0] λch G=>?_;refine⟨rfl,rfl,_,b8,rfl,rfl,(bk h λZ9 H h=>(.ez ⟨rfl,rfl,(λ_ _=>rfl),DR.tL a H,Z9.length,cp e g.length [pI n.ah,pI n.aF,.str n.ak,.own 5 0 0 n.af.length],DR.ln a H,cr (DR.ln a H) ⟨.same _,.same _,.same _,.same _,trivial⟩,rfl,rfl,_,_,rfl,al,(.ab 4 g.length 3 5 _ (λ_=>qK (DR.lq a H) (G).po) λa9=>?_)⟩))⟩;have bg:=DR.gT a H (ae.bn (x:=n) (F0:=a9) G);exact lg (k _ _ _ _ _ _ h c _ j bg rfl) (tk [0,1,2,3,4] iB pD);refine .d ?_;obtain⟨⟨X8,MR⟩,bj,h⟩:=bd h;refine bN (aU bj) [0] ?_;refine sV h (λbo h=>?_) (λbo h=>?_);refine .float [(0,true),(1,true),(2,true),(3,false),(4,false),(5,false),(6,true),(7,false)] aRP ?_;refine⟨rfl,rfl,_,rfl,?_⟩;obtain⟨⟨I,cl⟩,br,h⟩:=bd h;refine bp (yW (ai:=ai) br) [0] λcq J=>?_;refine⟨rfl,rfl,_,b8,rfl,rfl,(bk h λbt K h=>(.ez ⟨rfl,rfl,(λ_ _=>rfl),DR.tL a K,bt.length,cp e g.length [pI I.ah,pI I.aF,.str I.ak,.own 5 0 0 I.af.length],DR.ln a K,cr (DR.ln a K) ⟨.same _,.same _,.same _,.same _,trivial⟩,rfl,rfl,_,_,rfl,al,(.ab 4 g.length 3 5 _ (λ_=>qK (DR.lq a K) (J).po) λbw=>?_)⟩))⟩;have bD:=DR.gT a K (ae.bn (x:=I) (F0:=bw) J);exact lg (k _ _ _ _ _ _ h c _ j bD rfl) (tk [0,1,2,3,4] iB pD);refine .float [(0,true),(1,true),(2,true),(3,false),(4,false),(5,false),(6,true),(7,false)] aRP ?_;refine⟨rfl,rfl,_,rfl,?_⟩;obtain⟨⟨L,TD⟩,YA,h⟩:=bd h;refine bp (KD (ai:=ai) YA) [0] λcv M=>?_;refine⟨rfl,rfl,_,b8,rfl,rfl,(bk h λb0 N h=>(.ez ⟨rfl,rfl,(λ_ _=>rfl),DR.tL a N,b0.length,cp e g.length [pI L.ah,pI L.aF,.str L.ak,.own 5 0 0 L.af.length],DR.ln a N,cr (DR.ln a N) ⟨.same _,.same _,.same _,.same _,trivial⟩,rfl,rfl,_,_,rfl,al,(.ab 4 g.length 3 5 _ (λ_=>qK (DR.lq a N) (M).po) λb1=>?_)⟩))⟩;have O:=DR.gT a N (ae.bn (x:=L) (F0:=b1) M);exact lg (k _ _ _ _ _ _ h c _ j O rfl) (tk [0,1,2,3,4] iB pD);exact ct ⟨_,_,_,_,_,_,c,e,j,a,si h,rfl,rfl⟩ (tk [0,1,2,3,4] sQ pD);exact .f (.f (.f (.f (.f (.f (.f (.f (.f (.f (.f (ct ⟨_,_,_,_,_,_,c,e,j,a,si h,rfl,rfl⟩ (tk [0,1,2,3,4] sQ pD))))))))))));rintro _ _ ⟨S,T,U,V,u,v,W,P,d7,b2,rfl,rfl,rfl⟩;replace h:=Z5;refine .d ⟨rfl,_,rfl,rfl,_,_,rfl,al,?_⟩;obtain rfl:=si h;exact⟨rfl,_,rfl,(en [0,4] ⟨P,b2.self,rfl,rfl⟩ eW mX)⟩
mutual
def lS (a0:ae):Option (ae×ae):=(iX a0 a0.af ([]:List ae) ([]:List ae) 0:Option agG)>>=λ(a,c,b)=>some ((ae.mk a0.ah a0.aF a0.ak b),(ae.mk a0.ah a0.aF a0.ak a)) partial_fixpoint
def iX (a0:ae) (c:List ae) (d:List ae) (my:List ae) (a:Int):Option agG:=if a<(a0.af.length:Int)then idx c a>>=λb=>lS b>>=λ(e,f)=>cQ 56 my [e]>>=λg=>iX a0 (c.set a.toNat (ae.mk b.ah b.aF b.ak f.af)) d g (bm (a+1))else some (c,d,my) partial_fixpoint
end
def aab (a0:ae) (r:ae×ae):Prop:=∀ai:Nat,∀a:Nat,∀cP:Nat->List PV,DR ae.D a cP a0.af->ACall Tryz.prog 19 [.agg [pI a0.ah,pI a0.aF,.str a0.ak,.own 0 ai 0 a]] [.row ai 4 a 24 cP] (λres h=>∃F0:Nat->List PV,∃F1:Nat->List PV,DR ae.D a F0 r.2.af/\DR ae.D r.1.af.length F1 r.1.af/\res=.agg [pI r.1.ah,pI r.1.aF,.str r.1.ak,.own 1 0 0 r.1.af.length]/\h=[.row ai 4 a 24 F0,.row 0 4 r.1.af.length 24 F1])
inductive ke:ae->(List ae)->(List ae)->(List ae)->Int->agG->Prop
 | mk (G19:ae->Option (ae×ae)) (aNi:∀a0 r,G19 a0=some r->aab a0 r) (ur:ae->(List ae)->(List ae)->(List ae)->Int->Option agG) (TK:∀a0 Ax u0 my wI o,ur a0 Ax u0 my wI=some o->ke a0 Ax u0 my wI o) (a0:ae) (Ax:List ae) (u0:List ae) (my:List ae) (wI:Int) (o:(List ae)×(List ae)×(List ae)) (h:(
 (if wI<(a0.af.length:Int)then
 idx Ax wI>>=λrH=>
 G19 rH>>=λ(Hi,MT)=>
 cQ 56 my [Hi]>>=λIL=>
 ur a0 (Ax.set wI.toNat (ae.mk rH.ah rH.aF rH.ak MT.af)) u0 IL (bm (wI+1))
 else
 some (Ax,u0,my))
 )=some o):ke a0 Ax u0 my wI o
theorem EP:(∀a0 r,lS a0=some r->aab a0 r)/\(∀a0 m k my l o,iX a0 m k my l=some o->ke a0 m k my l o):=by
 refine lS.mutual_partial_correctness aab ke ?_ ?_;intro _ H a0 r h ai dj cP c8;obtain rfl:=c8.len;refine dY Tryz.func19 ?_;refine .d (.d ⟨rfl,rfl,_,rfl,rfl,rfl,_,rfl,rfl,rfl,_,rfl,rfl,_,_,rfl,al,?_⟩);obtain⟨U,h,W⟩:=bd h;refine .cut (λσ η=>∃I,∃n,∃q,∃f2:Nat->List PV,∃J:Nat->List PV,∃G:Nat->List PV,DR ae.D a0.af.length f2 I/\DR ae.D n.length J n/\DR ae.D q.length G q/\(I,n,q)=U/\σ=[(2,.aA 1 0 0 0),(3,.aA 3 0 0 0)]/\η=[.row ai 4 a0.af.length 24 f2,.row 0 4 1 24 (λ_=>[pI 0,pI 0,.str [],.own 2 0 0 n.length]),.row 0 4 n.length 24 J,.row 0 4 1 24 (λ_=>[pI a0.ah,pI a0.aF,.str a0.ak,.own 4 0 0 q.length]),.row 0 4 q.length 24 G]) ?_ ?_;refine .d ?_;have K:=H _ _ _ _ _ _ h;refine le (ke.rec (motive:=λt m k my l V _=>∀b:Nat->List PV,∀c:Nat->List PV,∀e:Nat->List PV,DR ae.D a0.af.length b m->DR ae.D k.length c k->DR ae.D my.length e my->a0=t->U=V->aG _ _ [(1,.aA 1 0 0 0),(2,.aA 2 0 0 0),(3,.aA 4 0 0 0),(4,pI l)] [.row ai 4 a0.af.length 24 b,.row 0 4 1 24 (λ_=>[pI a0.ah,pI a0.aF,.str a0.ak,.own 0 ai 0 a0.af.length]),.row 0 4 1 24 (λ_=>[pI 0,pI 0,.str [],.own 3 0 0 k.length]),.row 0 4 k.length 24 c,.row 0 4 1 24 (λ_=>[pI a0.ah,pI a0.aF,.str a0.ak,.own 5 0 0 my.length]),.row 0 4 my.length 24 e]) ?_ K cP (λ_=>[]) (λ_=>[]) c8 ((DR.nil (D:=ae.D)).self) ((DR.nil (D:=ae.D)).self) rfl rfl) (tk [0,1,2,7,3,9] ⟨.p,.p,.p,.i,⟨⟩⟩ ⟨oda,(nb rfl ⟨.i,.i,.s,.oe,⟨⟩⟩),(nb rfl ⟨.i,.i,.s,.g,⟨⟩⟩),gh,(nb rfl ⟨.i,.i,.s,.g,⟨⟩⟩),gh,⟨⟩⟩);intro _ L _ _ t m k my l V h M b c e f u j X Y;subst X;subst Y;refine aG.round (.d (.d ⟨rfl,rfl,_,rfl,rfl,(sD h (λZ h=>?_) (λZ h=>?_))⟩));refine bk h λa v h=>?_;obtain⟨N,w,O,y⟩:=ae.ajH (DR.idx f v);refine .ex [.row ai 4 a0.af.length 24 (cp b l.toNat [pI a.ah,pI a.aF,.str a.ak,.own 6 0 0 a.af.length]),.row 0 4 1 24 (λ_=>[pI a0.ah,pI a0.aF,.str a0.ak,.own 0 ai 0 a0.af.length]),.row 0 4 1 24 (λ_=>[pI 0,pI 0,.str [],.own 3 0 0 k.length]),.row 0 4 k.length 24 c,.row 0 4 1 24 (λ_=>[pI a0.ah,pI a0.aF,.str a0.ak,.own 5 0 0 my.length]),.row 0 4 my.length 24 e,.row 0 4 a.af.length 24 w] (exs 0 3 [pI a.ah,pI a.aF,.str a.ak,.eg 4 a.af.length 24 w N] [pI a.ah,pI a.aF,.str a.ak,.own 6 0 0 a.af.length] (cp b l.toNat [pI a.ah,pI a.aF,.str a.ak,.own 6 0 0 a.af.length]) (DR.lt f v) O jI amC rfl rfl rfl rfl) (.d (.float [(0,true),(1,true),(2,true),(3,true),(4,true),(5,true),(6,true),(7,false),(8,false),(9,false),(10,true),(11,false)] aRP ?_));refine⟨rfl,rfl,_,rfl,rfl,rfl,_,rfl,rfl,DR.bd f v,_,are _,rfl,_,jI,?_⟩;obtain⟨⟨z,P⟩,Q,h⟩:=bd h;refine aun (L _ _ Q _ _ _ y) [6] ⟨(L6 y),⟨⟩⟩ ?_;rintro _ _ ⟨A,aa,B,C,rfl,rfl⟩;refine nx ?_;refine⟨rfl,rfl,_,b8,rfl,rfl,(bk h λIL E h=>(.ez ⟨rfl,rfl,(λ_ _=>rfl),DR.tL j E,IL.length,cp e my.length [pI z.ah,pI z.aF,.str z.ak,.own 7 0 0 z.af.length],DR.ln j E,cr (DR.ln j E) ⟨.same _,.same _,.same _,.same _,trivial⟩,rfl,rfl,_,_,rfl,al,(.ab 0 l.toNat 3 6 _ (λ_=>qK (DR.lt f v) (B).po) λF=>(.ab 5 my.length 3 7 _ (λ_=>qK (DR.lq j E) (C).po) λR=>?_))⟩))⟩;have S:DR ae.D a0.af.length (cp b l.toNat [pI a.ah,pI a.aF,.str a.ak,.eg 4 a.af.length 24 A F]) (m.set l.toNat (ae.mk a.ah a.aF a.ak P.af)):=DR.set f (oL v) (ae.bn (x:=(ae.mk a.ah a.aF a.ak P.af)) B:ae.D [pI a.ah,pI a.aF,.str a.ak,.eg 4 a.af.length 24 A F] (ae.mk a.ah a.aF a.ak P.af));have T:=DR.gT j E (ae.bn (x:=z) (F0:=R) C);exact lg (M _ _ _ _ _ _ h _ c _ S u T rfl rfl) (tk [0,1,2,3,4,5] ⟨.p,.p,.p,.i,⟨⟩⟩ ⟨oda,(nb rfl ⟨.i,.i,.s,.oe,⟨⟩⟩),(nb rfl ⟨.i,.i,.s,.oe,⟨⟩⟩),yE,(nb rfl ⟨.i,.i,.s,.oe,⟨⟩⟩),yE,⟨⟩⟩);exact ct ⟨_,_,_,b,c,e,f,u,j,si h,rfl,rfl⟩ (tk [0,2,3,4,5] sQ ⟨oda,(nb rfl ⟨.i,.i,.s,.oe,⟨⟩⟩),yE,(nb rfl ⟨.i,.i,.s,.oe,⟨⟩⟩),yE,⟨⟩⟩);rintro _ _ ⟨I,n,q,f2,J,G,d3,d6,d9,rfl,rfl,rfl⟩;replace h:=W;refine .d ⟨rfl,_,rfl,rfl,_,_,rfl,al,?_⟩;obtain rfl:=si h;exact⟨rfl,_,rfl,(en [0,4] ⟨f2,G,d3,d9.self,rfl,rfl⟩ eW ⟨oda,yE,⟨⟩⟩)⟩;intro F0 F1 ou ow a0 m k my l o h;exact .mk F0 ou F1 ow a0 m k my l o h
theorem KE {a0:ae} {r:ae×ae} {ai:Nat} {a:Nat} {cP:Nat->List PV} (h:lS a0=some r) (c8:DR ae.D a cP a0.af):ACall Tryz.prog 19 [.agg [pI a0.ah,pI a0.aF,.str a0.ak,.own 0 ai 0 a]] [.row ai 4 a 24 cP] (λres h=>∃F0:Nat->List PV,∃F1:Nat->List PV,DR ae.D a F0 r.2.af/\DR ae.D r.1.af.length F1 r.1.af/\res=.agg [pI r.1.ah,pI r.1.aF,.str r.1.ak,.own 1 0 0 r.1.af.length]/\h=[.row ai 4 a 24 F0,.row 0 4 r.1.af.length 24 F1]):=EP.1 a0 r h ai a cP c8
def k8 (a0:aE):Option (ae×Int×Int):=AS a0>>=λ(e,b,f)=>if b=0 then ny (aH.mk e 0 (a0.length:Int) (-1))>>=λ(c,d)=>if d.aw>=0 then some ((ae.mk 0 0 [] []),10,d.aw)else mD c>>=λa=>if a then lS c>>=λ(g,h)=>some (g,0,0)else some ((ae.mk 0 0 [] []),11,0)else some ((ae.mk 0 0 [] []),b,f)
theorem B8 {a0:aE} {r:ae×Int×Int} (h:k8 a0=some r):auo 9 a0 r:=by
 refine dY Tryz.func9 ?_;unfold k8 at h;refine .d (.d ?_);obtain⟨⟨q,t,u⟩,e,h⟩:=bd h;refine bT (aac e) (.d (.d (sN h (λf h=>?_) (λf h=>?_))));refine .d ⟨rfl,_,_,rfl,al,?_⟩;obtain rfl:=si h;exact⟨rfl,_,rfl,(en [1] ⟨_,(DR.nil (D:=ae.D)),rfl,rfl⟩ VO HL)⟩;refine .d ⟨rfl,_,_,rfl,al,(.d ?_)⟩;obtain⟨⟨v,w⟩,g,h⟩:=bd h;refine bp (EM (ai:=0) g) [1] λx a=>?_;refine⟨rfl,_,_,rfl,al,(.d (.d ⟨rfl,rfl,_,rfl,(sD h (λj h=>?_) (λj h=>?_))⟩))⟩;refine .d (.float [(0,true),(1,true),(2,true),(3,false),(4,true),(5,true)] aRP ?_);refine⟨rfl,rfl,_,rfl,rfl,_,_,rfl,al,rfl,rfl,?_⟩;obtain rfl:=si h;exact⟨rfl,_,rfl,(en [4] ⟨_,(DR.nil (D:=ae.D)),rfl,rfl⟩ VO HL)⟩;refine .d ⟨rfl,_,rfl,(bk h λk l h=>(TL (yX l) ⟨.jH ⟨.i,.i,.s,(.rd a),⟨⟩⟩,⟨⟩⟩ (gp h (λm h=>?_) (λm h=>?_))))⟩;refine .d ⟨rfl,_,_,rfl,al,?_⟩;obtain rfl:=si h;exact⟨rfl,_,rfl,(en [4] ⟨_,(DR.nil (D:=ae.D)),rfl,rfl⟩ VO HL)⟩;refine .d ⟨rfl,_,rfl,?_⟩;obtain⟨⟨y,z⟩,n,h⟩:=bd h;refine aun (KE (ai:=0) n a) [2] ⟨(L6 a),⟨⟩⟩ ?_;rintro _ _ ⟨o,b,p,c,rfl,rfl⟩;refine nx ?_;refine⟨rfl,_,_,rfl,al,?_⟩;obtain rfl:=si h;exact⟨rfl,_,rfl,(en [4] ⟨b,c.self,rfl,rfl⟩ (.ng ⟨.jH ⟨.i,.i,.s,.oe,⟨⟩⟩,.i,.i,⟨⟩⟩) ⟨yE,⟨⟩⟩)⟩
set_option maxRecDepth 100000
set_option synthInstance.maxHeartbeats 400000
set_option synthInstance.maxSize 4000
mutual
def cD (a0:ae) (a1:ae):Option (Bool):=if a0.ah=a1.ah then if a0.aF=a1.aF then if a0.ak=a1.ak then if(a0.af.length:Int)=(a1.af.length:Int)then((nG a0 a1 0:Option fL)>>=λa=>match a with | .inr r=>some r | .inl _=>some true)else some false else some false else some false else some false partial_fixpoint
def nG (a0:ae) (a1:ae) (a:Int):Option fL:=if a<(a0.af.length:Int)then idx a0.af a>>=λb=>idx a1.af a>>=λc=>cD b c>>=λd=>if d then nG a0 a1 (bm (a+1))else some (.inr false)else some (.inl ()) partial_fixpoint
end
def aad (a0:ae) (a1:ae) (r:Bool):Prop:=sg9 89 a0 a1 r
inductive jJ:ae->ae->Int->fL->Prop
 | mk (G89:ae->ae->Option (Bool)) (aup:∀a0 a1 r,G89 a0 a1=some r->aad a0 a1 r) (tb:ae->ae->Int->Option fL) (Q3:∀a0 a1 y8 o,tb a0 a1 y8=some o->jJ a0 a1 y8 o) (a0:ae) (a1:ae) (y8:Int) (o:(Unit) ⊕ Bool) (h:(
 (if y8<(a0.af.length:Int)then
 idx a0.af y8>>=λXt=>
 idx a1.af y8>>=λPX=>
 G89 Xt PX>>=λu6=>
 (if u6=true then
 tb a0 a1 (bm (y8+1))
 else
 some (.inr false))
 else
 some (.inl ()))
 )=some o):jJ a0 a1 y8 o
theorem Dy:(∀a0 a1 r,cD a0 a1=some r->aad a0 a1 r)/\(∀a0 a1 a o,nG a0 a1 a=some o->jJ a0 a1 a o):=by
 refine cD.mutual_partial_correctness aad jJ ?_ ?_;intro _ e a0 a1 r h;refine dY Tryz.func89 ?_;refine .d (.d (.d ⟨rfl,rfl,_,rfl,rfl,rfl,_,rfl,(sN h (λq h=>?_) (λq h=>?_))⟩));refine .t (.t (.t (.t (.t (.t (.t (.t (.t (.t (.t (.t (.t (.t (.t ?_))))))))))))));exact .t (.t (.t (.t (.t (.d (eB h))))));refine⟨rfl,(.f ⟨rfl,_,rfl,(.f ⟨rfl,(.f ⟨rfl,_,rfl,(.f (.f (sN h (λs h=>?_) (λs h=>?_))))⟩)⟩)⟩)⟩;refine .t (.t (.t (.t (.t (.t (.t (.t (.t (.t (.t (.t (.t (.t (.d ?_))))))))))))));exact eB h;refine⟨rfl,(.f ⟨rfl,_,rfl,(.f ⟨rfl,(.f ⟨rfl,_,rfl,(.f (.f (VA h (λu h=>?_) (λu h=>?_))))⟩)⟩)⟩)⟩;exact aRr;refine⟨rfl,(.f ⟨rfl,_,rfl,(.f (.f ⟨rfl,(.f ⟨rfl,_,rfl,(.f (.f (.f (sN h (λv h=>?_) (λv h=>?_)))))⟩)⟩))⟩)⟩;exact aRh;obtain⟨l,h,ve⟩:=bd h;refine .cut (λσ η=>.inl ()=l/\σ=[]/\η=[]) ?_ ?_;refine .d ?_;have g:=e _ _ _ _ h;refine le (jJ.rec (motive:=λb c a m _=>a0=b->a1=c->l=m->aG _ _ [(2,.aA 0 0 0 0),(3,.aA 1 0 0 0),(5,pI a)] [.row 0 4 1 24 (λ_=>a0.lit),.row 0 4 1 24 (λ_=>a1.lit)]) ?_ g rfl rfl rfl) (tk [0,1] VP B9);intro _ i _ _ b c a m h Xu  j k w;subst j;subst k;subst w;refine aG.round (.d (.d ⟨rfl,rfl,_,rfl,(sD h (λx h=>?_) (λx h=>?_))⟩));refine .d (.d (.float [(0,true),(1,true),(2,true),(3,true),(4,true),(5,true),(6,true),(7,true),(8,true),(9,true),(10,false),(11,true)] aRP ?_));refine⟨rfl,rfl,_,rfl,(bk h λy n h=>⟨aW n,_,(aK n).trans (ae.aC y),rfl,rfl,_,rfl,(bk h λz p h=>⟨aW p,_,(aK p).trans (ae.aC z),(bk h λC A h=>(bT (i _ _ _ A) (gp h (λB h=>?_) (λB h=>?_))))⟩)⟩)⟩;refine .d ?_;exact aQB;exact lg (Xu _ _ _ _ h rfl rfl rfl) (tk [0,1] VP B9);exact aRe;rintro _ _ ⟨rfl,rfl,rfl⟩;replace h:=ve;exact aRh;intro F0 F1 ou ow a0 a1 a o h;exact .mk F0 ou F1 ow a0 a1 a o h
theorem lA {a0:ae} {a1:ae} {r:Bool} (h:cD a0 a1=some r):sg9 89 a0 a1 r:=Dy.1 a0 a1 r h
def lT (c:Int) (d:Int) (e:aE) (a:List ae):Option Mk:=if c=7 then if(a.length:Int)>0 then idx a 0>>=λb=>lT b.ah b.aF b.ak b.af else some (c,d,e,a)else some (c,d,e,a) partial_fixpoint
def lU (a0:ae):Option (ae):=(lT a0.ah a0.aF a0.ak a0.af:Option Mk)>>=λ(y1,a,b,c)=>some (ae.mk y1 a b c)
theorem KF {a0:ae} {r:ae} (h:lU a0=some r):ACall Tryz.prog 90 [.agg a0.lit] [] (λres h=>res=.agg r.lit/\h=[]):=by
 refine dY Tryz.func90 ?_;unfold lU at h;refine .d ?_;obtain⟨a,h,ve⟩:=bd h;refine .cut (λσ η=>∃y1,∃b,∃c,∃e,(y1,b,c,e)=a/\σ=[(1,.aA 0 0 0 0),(2,.aA 1 0 0 0)]/\η=[.row 0 4 1 24 (λ_=>[pI y1,pI b,.str c,sl 4 ae.cells e]),.row 0 4 1 24 (λ_=>[pI 0,pI 0,.str [],.ck])]) ?_ ?_;refine le (lT.partial_correctness  (motive:=λg j k m n=>a=n->aG _ _ [(1,.aA 0 0 0 0),(2,.aA 1 0 0 0)] [.row 0 4 1 24 (λ_=>[pI g,pI j,.str k,sl 4 ae.cells m]),.row 0 4 1 24 (λ_=>[pI 0,pI 0,.str [],.ck])]) ?_ a0.ah a0.aF a0.ak a0.af a h rfl) (tk [0,1] sQ HM);intro p q g j k m n h u;subst u;refine aG.round (.d (.d ⟨rfl,rfl,_,rfl,(sE h (λv h=>?_) (λv h=>?_))⟩));refine⟨rfl,(.t ⟨rfl,_,rfl,(.t (.t (.t (sD h (λw h=>?_) (λw h=>?_)))))⟩)⟩;exact⟨rfl,rfl,_,rfl,(bk h λx o h=>⟨aW o,_,(aK o).trans (ae.aC x),rfl,_,_,rfl,al,(lg (q _ _ _ _ _ h rfl) (tk [0,1] sQ HM))⟩)⟩;exact ct ⟨_,_,_,_,si h,rfl,rfl⟩ (tk [0,1] sQ HM);exact .f (.f (.f (.f (.f (ct ⟨_,_,_,_,si h,rfl,rfl⟩ (tk [0,1] sQ HM))))));rintro _ _ ⟨y1,b,c,e,rfl,rfl,rfl⟩;replace h:=ve;refine .d ⟨rfl,_,rfl,rfl,_,_,rfl,al,?_⟩;obtain rfl:=si h;exact⟨rfl,_,rfl,(en [] ⟨rfl,rfl⟩ (.jH ⟨.i,.i,.s,.l,⟨⟩⟩) ⟨⟩)⟩
def gF (a0:List ae) (a1:Int) (c:Int) (a:Int) (b:Int):Option um:=if b<a then idx a0 a>>=λf=>yO f.ah a1 c>>=λg=>if g then idx a0 b>>=λd=>yO d.ah a1 c>>=λe=>if e then idx a0 a>>=λh=>idx a0 b>>=λi=>if h.ak=i.ak then some (.inr (.inr true))else gF a0 a1 c a (bm (b+1))else gF a0 a1 c a (bm (b+1))else gF a0 a1 c a (bm (b+1))else some (.inl ()) partial_fixpoint
def jx (a0:List ae) (a1:Int) (b:Int) (a:Int):Option fL:=if a<(a0.length:Int)then((gF a0 a1 b a 0:Option um)>>=λc=>match c with | .inr r=>some r | .inl _=>jx a0 a1 b (bm (a+1)))else some (.inl ()) partial_fixpoint
def fB (a0:List ae) (a1:Int) (a:Int):Option (Bool):=((jx a0 a1 a 0:Option fL)>>=λb=>match b with | .inr r=>some r | .inl _=>some false)
theorem qb {a0:List ae} {a1:Int} {a:Int} {r:Bool} (h:fB a0 a1 a=some r):ACall Tryz.prog 46 [sl 4 ae.cells a0,pI a1,pI a] [] (λres h=>res=.bool r/\h=[]):=by
 refine dY Tryz.func46 ?_;unfold fB at h;refine .d ?_;obtain⟨g,h,eX⟩:=bd h;refine .cut (λσ η=>.inl ()=g/\σ=[]/\η=[]) ?_ ?_;refine .d ?_;refine le (jx.partial_correctness a0 a1 a (motive:=λb c=>g=c->aG _ _ [(0,sl 4 ae.cells a0),(1,pI a1),(2,pI a),(7,pI b)] []) ?_ 0 g h rfl) (tk [] ⟨.l,.i,.i,.i,⟨⟩⟩ ⟨⟩);intro K y b c h j;subst j;refine aG.round (.d (.d (sD h (λz h=>?_) (λz h=>?_))));obtain⟨k,h,q⟩:=bd h;refine .cut (λσ η=>.inl ()=k/\σ=[(0,sl 4 ae.cells a0),(1,pI a1),(2,pI a),(7,pI b)]/\η=[]) ?_ ?_;refine .d ?_;refine le (gF.partial_correctness a0 a1 a b (motive:=λs e=>k=e->aG _ _ [(0,sl 4 ae.cells a0),(1,pI a1),(2,pI a),(7,pI b),(8,pI s)] []) ?_ 0 k h rfl) (tk [] agH ⟨⟩);intro A m s e h n;subst n;refine aG.round (.d (.d (sD h (λB h=>?_) (λB h=>?_))));refine .d (.d (.float [(0,true),(1,true),(2,true),(3,true),(4,true),(5,true),(6,true),(7,false),(8,true),(9,true),(10,true),(11,true),(12,true),(13,true),(14,true),(15,true),(16,false),(17,true),(18,true),(19,true),(20,true),(21,true),(22,true),(23,true),(24,true),(25,true),(26,true),(27,true),(28,true),(29,true),(30,true)] aRP ?_));refine bk h λC u h=>⟨aW u,_,(aK u).trans (ae.aC C),(bk h λL D h=>(bT (rK D) (sV h (λE h=>?_) (λE h=>?_))))⟩;refine .t (.t (bk h λo v h=>⟨aW v,_,(aK v).trans (ae.aC o),(.t (.t (.t (.t (.t (bk h λF p h=>(bT (rK p) (.t (sV h (λG h=>?_) (λG h=>?_))))))))))⟩));refine .t (.t (bk h λH w h=>⟨aW w,_,(aK w).trans (ae.aC H),(.t (.t (.t (.t (.t (bk h λI x h=>⟨aW x,_,(aK x).trans (ae.aC I),(.t (.t (.t (.t ?_))))⟩))))))⟩));refine sE h (λJ h=>?_) (λJ h=>?_);refine .d ?_;obtain rfl:=si h;replace h:=q;exact aQx;exact lg (m _ _ h rfl) (tk [] agH ⟨⟩);exact .f (.f (.f (.f (.f (.f (.f (.f (.f (.f (.f (.f (lg (m _ _ h rfl) (tk [] agH ⟨⟩)))))))))))));refine .f (.f (.f (.f (.f (.f (.f (.f (.f (.f (.f (.f (.f (.f (.f ?_))))))))))))));exact .f (.f (.f (.f (.f (.f (lg (m _ _ h rfl) (tk [] agH ⟨⟩)))))));exact ct ⟨si h,rfl,rfl⟩ (tk [] ⟨.l,.i,.i,.i,⟨⟩⟩ ⟨⟩);rintro _ _ ⟨rfl,rfl,rfl⟩;replace h:=q;exact lg (y _ _ h rfl) (tk [] ⟨.l,.i,.i,.i,⟨⟩⟩ ⟨⟩);exact aRe;exact aQG
def dQ (a0:ae):Option (Bool):=((if a0.ah=24 then some (a0.ah==24)else if a0.ah=25 then some (a0.ah==25)else some (a0.ah==40)):Option (Bool))>>=λj=>if j then some (a0.ak==([116,104,105,115]:aE))else if a0.ah=17 then if a0.ak=([116,104,105,115]:aE)then some true else idx a0.af 0>>=λk=>cD k (ae.mk 4 0 [116,104,105,115] [])>>=λa=>some a else((if a0.ah=15 then some (a0.ah==15)else if a0.ah=16 then some (a0.ah==16)else some (a0.ah==41)):Option (Bool))>>=λb=>if b then idx a0.af 0>>=λc=>lU c>>=λl=>cD l (ae.mk 4 0 [116,104,105,115] [])>>=λm=>some m else if a0.ah=44 then idx a0.af 0>>=λd=>cD d (ae.mk 4 0 [116,104,105,115] [])>>=λe=>some e else if a0.ah=36 then idx a0.af 1>>=λf=>cD f (ae.mk 4 0 [116,104,105,115] [])>>=λn=>if n then some true else idx a0.af (bm ((a0.af.length:Int) - 2))>>=λg=>cD g (ae.mk 4 0 [116,104,105,115] [])>>=λh=>if h then some ((a0.af.length:Int)==4)else some false else if a0.ah=46 then if(a0.af.length:Int)=2 then idx a0.af 0>>=λi=>cD i (ae.mk 4 0 [116,104,105,115] [])>>=λo=>some o else some false else some false
theorem KG {a0:ae} {r:Bool} (h:dQ a0=some r):Hv 45 a0 r:=by
 refine dY Tryz.func45 ?_;unfold dQ at h;refine .d (.d ⟨rfl,_,_,rfl,al,(.d (.d ⟨rfl,rfl,_,rfl,?_⟩))⟩);obtain⟨s,h,Em⟩:=bd h;refine .cut (λσ η=>∃i,i=s/\σ=[(1,.aA 0 0 0 0),(3,.aA 1 0 0 0),(6,pI a0.ah),(7,.bool i)]/\η=[.row 0 4 1 24 (λ_=>a0.lit),.row 0 4 1 24 (λ_=>[pI 4,pI 0,.str [116,104,105,115],.ck])]) ?_ ?_;refine .d (sE h (λu h=>?_) (λu h=>?_));exact aRo;refine .d (sE h (λv h=>?_) (λv h=>?_));exact aRo;exact aRo;rintro _ _ ⟨i,rfl,rfl,rfl⟩;refine sV Em (λw h=>?_) (λw h=>?_);exact .d ⟨rfl,rfl,_,rfl,(eB h)⟩;refine .d (sE h (λx h=>?_) (λx h=>?_));refine .d (.float [(0,true),(1,true),(2,true),(3,true),(4,true),(5,true),(6,true),(7,true),(8,true),(9,false),(10,true),(11,true)] aRP ?_);refine⟨rfl,rfl,_,rfl,(sE h (λy h=>?_) (λy h=>?_))⟩;exact .t (.t (.t (.t (.t (.t (eB h))))));exact⟨rfl,(.f ⟨rfl,_,rfl,(.f (bk h λz b h=>⟨aW b,_,(aK b).trans (ae.aC z),(.f (.f ⟨rfl,_,rfl,(.f (bk h λA B h=>(bT (ACall.IS (lA B) ⟨.same _,.agg ⟨.same _,.same _,.same _,.nil _ _,⟨⟩⟩,⟨⟩⟩) (.f (eB h)))))⟩))⟩))⟩)⟩;obtain⟨C,h,D⟩:=bd h;refine .cut (λσ η=>∃a,a=C/\σ=[(1,.aA 0 0 0 0),(3,.aA 1 0 0 0),(6,pI a0.ah),(27,.bool a)]/\η=[.row 0 4 1 24 (λ_=>a0.lit),.row 0 4 1 24 (λ_=>[pI 4,pI 0,.str [116,104,105,115],.ck])]) ?_ ?_;refine .d (sE h (λE h=>?_) (λE h=>?_));exact aRo;refine .d (sE h (λF h=>?_) (λF h=>?_));exact aRo;exact aRo;rintro _ _ ⟨a,rfl,rfl,rfl⟩;refine sV D (λG h=>?_) (λG h=>?_);refine .d (.float [(0,true),(1,true),(2,true),(3,true),(5,true),(4,false),(6,false),(7,true)] aRP ?_);exact⟨rfl,rfl,_,rfl,(bk h λj c h=>⟨aW c,_,(aK c).trans (ae.aC j),rfl,_,rfl,(bk h λU H h=>(bT (KF H) ⟨rfl,(bk h λV I h=>(bT (ACall.IS (lA I) ⟨.same _,.agg ⟨.same _,.same _,.same _,.nil _ _,⟨⟩⟩,⟨⟩⟩) (eB h)))⟩))⟩)⟩;refine .d (sE h (λJ h=>?_) (λJ h=>?_));refine .d (.float [(0,true),(1,true),(2,true),(3,true),(4,true),(5,false),(6,true)] aRP ?_);exact⟨rfl,rfl,_,rfl,(bk h λk e h=>⟨aW e,_,(aK e).trans (ae.aC k),rfl,_,rfl,(bk h λK L h=>(bT (ACall.IS (lA L) ⟨.same _,.agg ⟨.same _,.same _,.same _,.nil _ _,⟨⟩⟩,⟨⟩⟩) (eB h)))⟩)⟩;refine .d (sE h (λM h=>?_) (λM h=>?_));refine .d (.float [(0,true),(1,true),(2,true),(3,true),(4,true),(5,false),(6,true),(7,true),(8,true),(9,true),(10,true),(11,true),(12,true),(13,true),(14,true),(15,true),(16,false),(17,true),(18,true),(19,true),(20,true),(21,true),(22,true),(23,true),(24,true)] aRP ?_);refine⟨rfl,rfl,_,rfl,(bk h λl p h=>⟨aW p,_,(aK p).trans (ae.aC l),rfl,_,rfl,(bk h λW N h=>(bT (ACall.IS (lA N) ⟨.same _,.agg ⟨.same _,.same _,.same _,.nil _ _,⟨⟩⟩,⟨⟩⟩) (sV h (λO h=>?_) (λO h=>?_))))⟩)⟩;exact .t (.t (.t (.t (.t (.t (.t (.t (.t (.t (.t (.t (eB h))))))))))));refine⟨rfl,(.f ⟨rfl,_,rfl,(.f ⟨rfl,(.f ⟨rfl,_,rfl,(.f (.f (.f (bk h λm q h=>⟨aW q,_,(aK q).trans (ae.aC m),(.f (.f ⟨rfl,_,rfl,?_⟩))⟩))))⟩)⟩)⟩)⟩;refine .f (bk h λP Q h=>(bT (ACall.IS (lA Q) ⟨.same _,.agg ⟨.same _,.same _,.same _,.nil _ _,⟨⟩⟩,⟨⟩⟩) (.f (sV h (λR h=>?_) (λR h=>?_)))));exact⟨rfl,(.t ⟨rfl,_,rfl,(.t (.t (.f (.t (.f (eB h))))))⟩)⟩;exact .f (.f (.f (.f (.f (.f (eB h))))));refine .d (sE h (λS h=>?_) (λS h=>?_));refine .d (.float [(0,true),(1,true),(2,true),(3,true),(4,true),(5,true),(6,true),(7,true),(8,true),(9,true),(10,false),(11,true),(12,true)] aRP ?_);refine⟨rfl,rfl,_,rfl,(sE h (λn h=>?_) (λn h=>?_))⟩;exact⟨rfl,(.t ⟨rfl,_,rfl,(.t (bk h λo g h=>⟨aW g,_,(aK g).trans (ae.aC o),(.t (.t ⟨rfl,_,rfl,(.t (bk h λX T h=>(bT (ACall.IS (lA T) ⟨.same _,.agg ⟨.same _,.same _,.same _,.nil _ _,⟨⟩⟩,⟨⟩⟩) (.t (eB h)))))⟩))⟩))⟩)⟩;exact .f (.f (.f (.f (.f (.f (eB h))))));exact aRh
mutual
def fp (a0:ae) (a1:Int) (e:Bool) (a:Bool):Option (Bool):=if a1+1=a1 then fp default default default default else((if a1=1 then if e then some false else if a0.ah=37 then some true else some (a0.ah==38)else if a1=2 then if a then some false else some (a0.ah==46)else if a1=3 then dQ a0>>=λb=>some b else if a1=4 then fB a0.af 24 25>>=λf=>some f else if a1=5 then fB a0.af 49 49>>=λg=>if g then some true else fB a0.af 54 54>>=λc=>if c then some true else fB a0.af 55 55>>=λh=>some h else some false):Option (Bool))>>=λi=>(((if a0.ah=35 then some (a0.ah==35)else some (a0.ah==36)):Option (Bool))>>=λd=>(if d then some (true,a)else if a0.ah=45 then some (false,a)else if a0.ah=49 then some (false,true)else if a0.ah=55 then some (false,true)else if a0.ah=23 then some (false,true)else some (e,a)):Option (Bool×Bool))>>=λ(j,k)=>(gG a0 a1 j k i 0:Option (Bool))>>=λl=>some l partial_fixpoint
def gG (a0:ae) (a1:Int) (e:Bool) (f:Bool) (a:Bool) (b:Int):Option (Bool):=if b<(a0.af.length:Int)then if a then some a else idx a0.af b>>=λc=>fp c a1 e f>>=λd=>gG a0 a1 e f d (bm (b+1))else some a partial_fixpoint
end
def aah (a0:ae) (a1:Int) (a:Bool) (b:Bool) (r:Bool):Prop:=ACall Tryz.prog 20 [.agg a0.lit,pI a1,.bool a,.bool b] [] (λres h=>res=.bool r/\h=[])
inductive iY:ae->Int->Bool->Bool->Bool->Int->(Bool)->Prop
 | mk (G20:ae->Int->Bool->Bool->Option (Bool)) (aNj:∀a0 a1 a2 a3 r,G20 a0 a1 a2 a3=some r->aah a0 a1 a2 a3 r) (rR:ae->Int->Bool->Bool->Bool->Int->Option (Bool)) (PY:∀a0 a1 Ay Hl KJ KK o,rR a0 a1 Ay Hl KJ KK=some o->iY a0 a1 Ay Hl KJ KK o) (a0:ae) (a1:Int) (Ay:Bool) (Hl:Bool) (KJ:Bool) (KK:Int) (o:Bool) (h:(
 (if KK<(a0.af.length:Int)then
 (if KJ=true then
 some KJ
 else
 idx a0.af KK>>=λx51=>
 G20 x51 a1 Ay Hl>>=λv53=>
 rR a0 a1 Ay Hl v53 (bm (KK+1)))
 else
 some KJ)
 )=some o):iY a0 a1 Ay Hl KJ KK o
theorem Cb:(∀a0 a1 k l r,fp a0 a1 k l=some r->aah a0 a1 k l r)/\(∀a0 a1 a c e g o,gG a0 a1 a c e g=some o->iY a0 a1 a c e g o):=by
 refine fp.mutual_partial_correctness aah iY ?_ ?_;intro _ _ P x a0 a1 k l r h;refine dY Tryz.func20 ?_;rw[mg aRK]at h;refine .d (.d ?_);obtain⟨Q,h,Em⟩:=bd h;refine .cut (λσ η=>∃m,m=Q/\σ=[(1,pI a1),(2,.bool k),(3,.bool l),(4,.aA 0 0 0 0),(9,.bool m)]/\η=[.row 0 4 1 24 (λ_=>a0.lit)]) ?_ ?_;refine .d (.d (sE h (λR h=>?_) (λR h=>?_)));refine gp h (λS h=>?_) (λS h=>?_);refine⟨rfl,(.t ⟨rfl,_,rfl,(.t (.t (sE h (λT h=>?_) (λT h=>?_))))⟩)⟩;exact .t (.t (.t (.t (.t (ct ⟨_,si h,rfl,rfl⟩ (tk [0] xf eY))))));exact⟨rfl,(.f ⟨rfl,_,rfl,(.f (.t (.f (.t (ct ⟨_,si h,rfl,rfl⟩ (tk [0] xf eY))))))⟩)⟩;exact .f (.f (.f (.f (.f (ct ⟨_,si h,rfl,rfl⟩ (tk [0] xf eY))))));refine .d (sE h (λU h=>?_) (λU h=>?_));refine gp h (λV h=>?_) (λV h=>?_);exact⟨rfl,(.t ⟨rfl,_,rfl,(.t (.t (ct ⟨_,si h,rfl,rfl⟩ (tk [0] xf eY))))⟩)⟩;exact .f (.f (.f (ct ⟨_,si h,rfl,rfl⟩ (tk [0] xf eY))));refine .d (sE h (λW h=>?_) (λW h=>?_));exact⟨rfl,_,rfl,(bk h λX Y h=>(bT (KG Y) (ct ⟨_,si h,rfl,rfl⟩ (tk [0] xf eY))))⟩;refine .d (sE h (λZ h=>?_) (λZ h=>?_));exact⟨rfl,rfl,_,rfl,(bk h λrP Ey h=>(bT (qb Ey) (ct ⟨_,si h,rfl,rfl⟩ (tk [0] xf eY))))⟩;refine .d (sE h (λmZ h=>?_) (λmZ h=>?_));refine⟨rfl,rfl,_,rfl,(bk h λu6 Eo h=>(bT (qb Eo) (sV h (λqM h=>?_) (λqM h=>?_))))⟩;exact .t (.t (.t (.t (.t (.t (.t (ct ⟨_,si h,rfl,rfl⟩ (tk [0] xf eY))))))));refine⟨rfl,(.f ⟨rfl,_,rfl,(.f (bk h λaa Qd h=>(bT (qb Qd) (.f (sV h (λyw h=>?_) (λyw h=>?_))))))⟩)⟩;exact .t (.t (.t (ct ⟨_,si h,rfl,rfl⟩ (tk [0] xf eY))));exact⟨rfl,(.f ⟨rfl,_,rfl,(.f (bk h λyF KH h=>(bT (qb KH) (.f (ct ⟨_,si h,rfl,rfl⟩ (tk [0] xf eY))))))⟩)⟩;exact ct ⟨_,si h,rfl,rfl⟩ (tk [0] xf eY);rintro _ _ ⟨m,rfl,rfl,rfl⟩;obtain⟨TF,h,Kx⟩:=bd Em;refine .cut (λσ η=>∃a,∃c,(a,c)=TF/\σ=[(1,pI a1),(2,.bool a),(3,.bool c),(4,.aA 0 0 0 0),(9,.bool m)]/\η=[.row 0 4 1 24 (λ_=>a0.lit)]) ?_ ?_;refine .d ⟨rfl,rfl,_,rfl,?_⟩;obtain⟨y,h,z⟩:=bd h;refine .cut (λσ η=>∃j,j=y/\σ=[(1,pI a1),(2,.bool k),(3,.bool l),(4,.aA 0 0 0 0),(9,.bool m),(60,pI a0.ah),(61,.bool j)]/\η=[.row 0 4 1 24 (λ_=>a0.lit)]) ?_ ?_;refine .d (sE h (λzq h=>?_) (λzq h=>?_));exact ct ⟨_,si h,rfl,rfl⟩ (tk [0] ⟨.i,.b,.b,.p,.b,.i,.b,⟨⟩⟩ eY);exact ct ⟨_,si h,rfl,rfl⟩ (tk [0] ⟨.i,.b,.b,.p,.b,.i,.b,⟨⟩⟩ eY);rintro _ _ ⟨j,rfl,rfl,rfl⟩;refine sV z (λyC h=>?_) (λyC h=>?_);exact aRF;refine .d (sE h (λQh h=>?_) (λQh h=>?_));exact aRF;refine .d (.d (sE h (λM h=>?_) (λM h=>?_)));exact .kt M (.d (ct ⟨_,_,si h,rfl,rfl⟩ (tk [0] xf eY)));refine .d (sE h (λN h=>?_) (λN h=>?_));exact .kt N (.d (ct ⟨_,_,si h,rfl,rfl⟩ (tk [0] xf eY)));refine sE h (λBZ h=>?_) (λBZ h=>?_);exact .d (ct ⟨_,_,si h,rfl,rfl⟩ (tk [0] xf eY));exact aRF;rintro _ _ ⟨a,c,rfl,rfl,rfl⟩;obtain⟨n,h,A⟩:=bd Kx;refine .cut (λσ η=>∃B,B=n/\σ=[(9,.bool B)]/\η=[]) ?_ ?_;refine .d ?_;have C:=x _ _ _ _ _ _ _ h;refine le (iY.rec (motive:=λq s u v e g w _=>a0=q->a1=s->a=u->c=v->n=w->aG _ _ [(1,pI a1),(2,.bool a),(3,.bool c),(4,.aA 0 0 0 0),(9,.bool e),(10,pI g)] [.row 0 4 1 24 (λ_=>a0.lit)]) ?_ C rfl rfl rfl rfl rfl) (tk [0] ⟨.i,.b,.b,.p,.b,.i,⟨⟩⟩ eY);intro _ D _ _ q s u v e g w h E  F G H I J;subst F;subst G;subst H;subst I;subst J;refine aG.round (.d (.d ⟨rfl,rfl,_,rfl,(sD h (λK h=>?_) (λK h=>?_))⟩));refine .t (.t (gp h (λQO h=>?_) (λQO h=>?_)));exact .d ⟨rfl,rfl,_,rfl,(bk h λL O h=>⟨aW O,_,(aK O).trans (ae.aC L),(bk h λad QP h=>(bT (D _ _ _ _ _ QP) (lg (E _ _ _ _ _ _ _ h rfl rfl rfl rfl rfl) (tk [0] ⟨.i,.b,.b,.p,.b,.i,⟨⟩⟩ eY))))⟩)⟩;exact ct ⟨_,si h,rfl,rfl⟩ (tk [] ⟨.b,⟨⟩⟩ ⟨⟩);exact .f (.f (.f (ct ⟨_,si h,rfl,rfl⟩ (tk [] ⟨.b,⟨⟩⟩ ⟨⟩))));rintro _ _ ⟨B,rfl,rfl,rfl⟩;replace h:=A;exact aRh;intro F0 F1 ou ow a0 a1 a c e g o h;exact .mk F0 ou F1 ow a0 a1 a c e g o h
theorem ES {a0:ae} {a1:Int} {a:Bool} {b:Bool} {r:Bool} (h:fp a0 a1 a b=some r):ACall Tryz.prog 20 [.agg a0.lit,pI a1,.bool a,.bool b] [] (λres h=>res=.bool r/\h=[]):=Cb.1 a0 a1 a b r h
def bR (a0:ae) (a:Int):Option ((Unit) ⊕ Int):=if a<=5 then fp a0 a false false>>=λb=>if b then some (.inr a)else bR a0 (bm (a+1))else some (.inl ()) partial_fixpoint
def k9 (a0:ae):Option (Int):=mD a0>>=λa=>if a then((bR a0 1:Option ((Unit) ⊕ Int))>>=λb=>match b with | .inr r=>some r | .inl _=>some 0)else some 5
theorem Cc {a0:ae} {r:Int} (h:k9 a0=some r):sg3 10 a0 r:=by
 refine dY Tryz.func10 ?_;unfold k9 at h;refine .d (.d (.d ⟨rfl,_,rfl,(bk h λo i h=>(bT (yX i) (gp h (λj h=>?_) (λj h=>?_))))⟩));exact aRj;obtain⟨c,h,a⟩:=bd h;refine .cut (λσ η=>.inl ()=c/\σ=[]/\η=[]) ?_ ?_;refine .d ?_;refine le (bR.partial_correctness a0 (motive:=λg b=>c=b->aG _ _ [(1,.aA 0 0 0 0),(3,pI g)] [.row 0 4 1 24 (λ_=>a0.lit)]) ?_ 1 c h rfl) (tk [0] HN eY);intro p e g b h f;subst f;refine aG.round (.d (.d (sD h (λk h=>?_) (λk h=>?_))));refine .d (.d ⟨rfl,_,rfl,(bk h λl m h=>(bT (ES m) (sV h (λn h=>?_) (λn h=>?_))))⟩);refine .d ?_;obtain rfl:=si h;replace h:=a;exact eI h;exact lg (e _ _ h rfl) (tk [0] HN eY);exact aRe;rintro _ _ ⟨rfl,rfl,rfl⟩;replace h:=a;exact aRj
set_option maxRecDepth 100000
def mE (a0:aE) (a1:aE):Option (fF×Int):=ld a1>>=λ(a,b,d)=>if b=0 then lh a>>=λc=>if c=0 then some ((fF.mk a0 a),0)else some ((fF.mk [] (ae.mk 0 0 [] [])),bm (20+c))else some ((fF.mk [] (ae.mk 0 0 [] [])),b)
theorem yY {a0:aE} {a1:aE} {r:fF×Int} (h:mE a0 a1=some r):aus 5 a0 a1 r:=by
 refine dY Tryz.func5 ?_;unfold mE at h;refine .d (.d ?_);obtain⟨⟨a,f,g⟩,j,h⟩:=bd h;refine aai (Cd j) ?_;rintro _ _ ⟨e,b,rfl,rfl⟩;refine⟨.fV [.agg [pI a.ah,pI a.aF,.str a.ak,.own 1 0 0 a.af.length],pI f,pI g],[.row 0 5 1 26 (λ_=>[.str [],pI 0,pI 0,.str [],.ck]),.row 0 4 a.af.length 24 e],rfl,(by simp only[aOC,aPb,shr,shd b];rfl),rfl,_,_,rfl,al,(.d (.d (sN h (λk h=>?_) (λk h=>?_))))⟩;refine .d ⟨rfl,_,_,rfl,al,?_⟩;exact aQT;refine .d (.d ⟨rfl,_,rfl,(bk h λm c h=>(TL (Ce c) ⟨.jH ⟨.i,.i,.s,(.rd b),⟨⟩⟩,⟨⟩⟩ (.d (sN h (λl h=>?_) (λl h=>?_)))))⟩);refine .d ⟨rfl,_,_,rfl,al,?_⟩;exact aQT;refine .d ⟨rfl,_,rfl,rfl,_,_,rfl,al,?_⟩;obtain rfl:=si h;exact⟨rfl,_,rfl,(en [1] ⟨e,b.self,rfl,rfl⟩ (.ng ⟨.jH ⟨.s,.i,.i,.s,.oe,⟨⟩⟩,.i,⟨⟩⟩) ⟨yE,⟨⟩⟩)⟩
def oM (a0:aE) (a1:aE):Option (fF×Int):=k8 a1>>=λ(a,b,d)=>if b=0 then k9 a>>=λc=>if c=0 then some ((fF.mk a0 a),0)else some ((fF.mk [] (ae.mk 0 0 [] [])),bm (20+c))else some ((fF.mk [] (ae.mk 0 0 [] [])),b)
theorem HO {a0:aE} {a1:aE} {r:fF×Int} (h:oM a0 a1=some r):aus 4 a0 a1 r:=by
 refine dY Tryz.func4 ?_;unfold oM at h;refine .d (.d ?_);obtain⟨⟨a,f,g⟩,j,h⟩:=bd h;refine aai (B8 j) ?_;rintro _ _ ⟨e,b,rfl,rfl⟩;refine⟨.fV [.agg [pI a.ah,pI a.aF,.str a.ak,.own 1 0 0 a.af.length],pI f,pI g],[.row 0 5 1 26 (λ_=>[.str [],pI 0,pI 0,.str [],.ck]),.row 0 4 a.af.length 24 e],rfl,(by simp only[aOC,aPb,shr,shd b];rfl),rfl,_,_,rfl,al,(.d (.d (sN h (λk h=>?_) (λk h=>?_))))⟩;refine .d ⟨rfl,_,_,rfl,al,?_⟩;exact aQT;refine .d ⟨rfl,_,rfl,(bk h λm c h=>(TL (Cc c) ⟨.jH ⟨.i,.i,.s,(.rd b),⟨⟩⟩,⟨⟩⟩ (.d (.d (sN h (λl h=>?_) (λl h=>?_))))))⟩;refine .d ⟨rfl,_,_,rfl,al,?_⟩;exact aQT;refine .d ⟨rfl,_,rfl,rfl,_,_,rfl,al,?_⟩;obtain rfl:=si h;exact⟨rfl,_,rfl,(en [1] ⟨e,b.self,rfl,rfl⟩ (.ng ⟨.jH ⟨.s,.i,.i,.s,.oe,⟨⟩⟩,.i,⟨⟩⟩) ⟨yE,⟨⟩⟩)⟩
set_option maxRecDepth 100000
mutual
def nM (a0:ae) (a1:ae):Option (Bool):=if a0.ah=a1.ah then if a0.aF=a1.aF then if a0.ak=a1.ak then xg a0.af a1.af>>=λa=>if a then some true else some false else some false else some false else some false partial_fixpoint
def xg (a0:List ae) (a1:List ae):Option (Bool):=if(a0.length:Int)=(a1.length:Int)then((iZ a0 a1 0:Option fL)>>=λa=>match a with | .inr r=>some r | .inl _=>some true)else some false partial_fixpoint
def iZ (a0:List ae) (a1:List ae) (a:Int):Option fL:=if a<(a0.length:Int)then idx a0 a>>=λd=>idx a1 a>>=λb=>nM d b>>=λc=>if c then iZ a0 a1 (bm (a+1))else some (.inr false)else some (.inl ()) partial_fixpoint
end
def aaj (a0:ae) (a1:ae) (r:Bool):Prop:=sg9 13 a0 a1 r
def ajI (a0:List ae) (a1:List ae) (r:Bool):Prop:=ACall Tryz.prog 27 [sl 4 ae.cells a0,sl 4 ae.cells a1] [] (λres h=>res=.bool r/\h=[])
inductive kf:(List ae)->(List ae)->Int->fL->Prop
 | mk (G13:ae->ae->Option (Bool)) (aNk:∀a0 a1 r,G13 a0 a1=some r->aaj a0 a1 r) (uu:(List ae)->(List ae)->Int->Option fL) (TM:∀a0 a1 jk o,uu a0 a1 jk=some o->kf a0 a1 jk o) (a0:List ae) (a1:List ae) (jk:Int) (o:(Unit) ⊕ Bool) (h:(
 (if jk<(a0.length:Int)then
 idx a0 jk>>=λyZ=>
 idx a1 jk>>=λx19=>
 G13 yZ x19>>=λv21=>
 (if v21=true then
 uu a0 a1 (bm (jk+1))
 else
 some (.inr false))
 else
 some (.inl ()))
 )=some o):kf a0 a1 jk o
theorem HP:(∀a0 a1 r,nM a0 a1=some r->aaj a0 a1 r)/\(∀a0 a1 r,xg a0 a1=some r->ajI a0 a1 r)/\(∀a0 a1 a o,iZ a0 a1 a=some o->kf a0 a1 a o):=by
 refine nM.mutual_partial_correctness aaj ajI kf ?_ ?_ ?_;intro _ f a0 a1 r h;refine dY Tryz.func13 ?_;refine .d (.d (.d ⟨rfl,rfl,_,rfl,rfl,rfl,_,rfl,(sN h (λw h=>?_) (λw h=>?_))⟩));exact aRh;refine .d (.d ⟨rfl,rfl,_,rfl,rfl,rfl,_,rfl,(sN h (λx h=>?_) (λx h=>?_))⟩);exact aRh;refine .d (.d ⟨rfl,rfl,_,rfl,rfl,rfl,_,rfl,(VA h (λy h=>?_) (λy h=>?_))⟩);exact aRh;refine .d (.d ⟨rfl,rfl,_,rfl,rfl,rfl,_,rfl,(bk h λI z h=>(bT (f _ _ _ z) (gp h (λA h=>?_) (λA h=>?_))))⟩);exact aRh;exact aRh;intro _ g a0 a1 r h;refine dY Tryz.func27 ?_;refine .d (.d (.d (sN h (λB h=>?_) (λB h=>?_))));exact aRh;obtain⟨s,h,t⟩:=bd h;refine .cut (λσ η=>.inl ()=s/\σ=[]/\η=[]) ?_ ?_;refine .d ?_;have j:=g _ _ _ _ h;refine le (kf.rec (motive:=λb c a e _=>a0=b->a1=c->s=e->aG _ _ [(0,sl 4 ae.cells a0),(1,sl 4 ae.cells a1),(5,pI a)] []) ?_ j rfl rfl rfl) (tk [] ⟨.l,.l,.i,⟨⟩⟩ ⟨⟩);intro _ k _ _ b c a e h C  m n p;subst m;subst n;subst p;refine aG.round (.d (.d (sD h (λD h=>?_) (λD h=>?_))));refine .d (.d (.float [(0,true),(1,true),(2,true),(3,true),(4,true),(5,true),(6,true),(7,true),(8,false),(9,true)] aRP ?_));refine bk h λE u h=>⟨aW u,_,(aK u).trans (ae.aC E),(bk h λq v h=>⟨aW v,_,(aK v).trans (ae.aC q),(bk h λF G h=>(bT (k _ _ _ G) (gp h (λH h=>?_) (λH h=>?_))))⟩)⟩;refine .d ?_;obtain rfl:=si h;exact eB t;exact lg (C _ _ _ _ h rfl rfl rfl) (tk [] ⟨.l,.l,.i,⟨⟩⟩ ⟨⟩);exact aRe;rintro _ _ ⟨rfl,rfl,rfl⟩;replace h:=t;exact aRh;intro F0 F1 ou ow a0 a1 a o h;exact .mk F0 ou F1 ow a0 a1 a o h
theorem MU {a0:ae} {a1:ae} {r:Bool} (h:nM a0 a1=some r):sg9 13 a0 a1 r:=HP.1 a0 a1 r h
set_option maxRecDepth 100000
def jy (y6:Int) (b:aE):Option (aE):=if y6>0 then yz ([UInt8.ofNat (IntKind.u8.wrap (bm (48+(y6.tmod 10)))).toNat]:List UInt8) b>>=λa=>jy (bm (y6.tdiv 10)) a else some b partial_fixpoint
def jK (a0:Int):Option (aE):=if a0<=0 then some [109,48]else(jy a0 []:Option (aE))>>=λb=>yz [109] b>>=λa=>some a
theorem y0 {a0:Int} {r:aE} (h:jK a0=some r):sg7 62 a0 r:=by
 refine dY Tryz.func62 ?_;unfold jK at h;refine .d (.d (.d (sD h (λo h=>?_) (λo h=>?_))));exact .d (eS h);refine .d ?_;obtain⟨b,h,c⟩:=bd h;refine .cut (λσ η=>∃e,e=b/\σ=[(3,.str e)]/\η=[]) ?_ ?_;refine le (jy.partial_correctness  (motive:=λy6 l a=>b=a->aG _ _ [(0,pI y6),(3,.str l)] []) ?_ a0 [] b h rfl) (tk [] ⟨.i,.s,⟨⟩⟩ ⟨⟩);intro q f y6 l a h g;subst g;refine aG.round (.d (.d (sD h (λp h=>?_) (λp h=>?_))));exact .d ⟨by decide,row cB ([UInt8.ofNat (IntKind.u8.wrap (bm (48+(y6.tmod 10)))).toNat]:List UInt8),eR cB ([UInt8.ofNat (IntKind.u8.wrap (bm (48+(y6.tmod 10)))).toNat]:List UInt8) rfl (xa (J7 _) ⟨.same _,trivial⟩ trivial),rfl,([UInt8.ofNat (IntKind.u8.wrap (bm (48+(y6.tmod 10)))).toNat]:List UInt8),rfl,qh bh rfl,(bk h λj m h=>⟨rm m,j,rn m,by decide,(lg (f _ _ _ h rfl) (tk [] ⟨.i,.s,⟨⟩⟩ ⟨⟩))⟩)⟩;exact ct ⟨_,si h,rfl,rfl⟩ (tk [] ⟨.s,⟨⟩⟩ ⟨⟩);rintro _ _ ⟨e,rfl,rfl,rfl⟩;exact .d (bk c λk n h=>⟨rm n,k,rn n,(eS h)⟩)
mutual
def iI (a0:List ae) (a1:Int):Option (Int×(List ae)):=(gH a0 a0 a1 0:Option (Int×(List ae)))>>=λ(y1,a)=>some (y1,a) partial_fixpoint
def gH (a0:List ae) (c:List ae) (a:Int) (b:Int):Option (Int×(List ae)):=if b<(a0.length:Int)then idx c b>>=λe=>jK (bm ((bm (a+1))+1))>>=λf=>iI e.af (bm ((bm ((bm (a+1))+1))+1))>>=λ(g,d)=>gH a0 (c.set b.toNat (ae.mk a (bm (a+1)) f d)) g (bm (b+1))else some (a,c) partial_fixpoint
end
def aak (a0:List ae) (a1:Int) (r:Int×(List ae)):Prop:=∀ai:Nat,∀a:Nat,∀cP:Nat->List PV,DR ae.D a cP a0->ACall Tryz.prog 28 [.own 0 ai 0 a,pI a1] [.row ai 4 a 24 cP] (λres h=>∃F0:Nat->List PV,DR ae.D a F0 r.2/\res=pI r.1/\h=[.row ai 4 a 24 F0])
inductive ja:(List ae)->(List ae)->Int->Int->(Int×(List ae))->Prop
 | mk (G28:(List ae)->Int->Option (Int×(List ae))) (arK:∀a0 a1 r,G28 a0 a1=some r->aak a0 a1 r) (rS:(List ae)->(List ae)->Int->Int->Option (Int×(List ae))) (PZ:∀a0 l8 jk wH o,rS a0 l8 jk wH=some o->ja a0 l8 jk wH o) (a0:List ae) (l8:List ae) (jk:Int) (wH:Int) (o:Int×(List ae)) (h:(
 (if wH<(a0.length:Int)then
 idx l8 wH>>=λyZ=>
 jK (bm ((bm (jk+1))+1))>>=λyF=>
 G28 yZ.af (bm ((bm ((bm (jk+1))+1))+1))>>=λ(D2,v26)=>
 rS a0 (l8.set wH.toNat (ae.mk jk (bm (jk+1)) yF v26)) D2 (bm (wH+1))
 else
 some (jk,l8))
 )=some o):ja a0 l8 jk wH o
theorem Cf:(∀a0 a1 r,iI a0 a1=some r->aak a0 a1 r)/\(∀a0 l a c o,gH a0 l a c=some o->ja a0 l a c o):=by
 refine iI.mutual_partial_correctness aak ja ?_ ?_;intro _ y a0 a1 r h ai N cP c8;obtain rfl:=c8.len;refine dY Tryz.func28 ?_;refine .d ?_;obtain⟨J,h,ve⟩:=bd h;refine .cut (λσ η=>∃y1,∃z,∃w:Nat->List PV,DR ae.D a0.length w z/\(y1,z)=J/\σ=[(1,pI y1)]/\η=[.row ai 4 a0.length 24 w]) ?_ ?_;refine .d ?_;have A:=y _ _ _ _ _ h;refine le (ja.rec (motive:=λp l a c q _=>∀g:Nat->List PV,DR ae.D a0.length g l->a0=p->J=q->aG _ _ [(0,.own 0 ai 0 a0.length),(1,pI a),(5,pI c)] [.row ai 4 a0.length 24 g]) ?_ A cP c8 rfl rfl) (tk [0] ⟨.oe,.i,.i,⟨⟩⟩ KL);intro _ B _ _ p l a c q h C g b E F;subst E;subst F;refine aG.round (.d (.d ⟨rfl,(sD h (λK h=>?_) (λK h=>?_))⟩));refine .d (.d (bk h λe m h=>?_));obtain⟨k,f,G,s⟩:=ae.ajH (DR.idx b m);refine⟨rfl,DR.bd b m,_,are _,rfl,rfl,_,(cp g c.toNat [pI a,pI e.aF,.str e.ak,.eg 4 e.af.length 24 f k]),G,qN ⟨.same _,.same _,.same _,.same _,trivial⟩,(.d (.d ⟨rfl,DR.bd b m,_,are _,rfl,rfl,_,(cp g c.toNat [pI a,pI (bm (a+1)),.str e.ak,.eg 4 e.af.length 24 f k]),jI,TN ⟨.same _,.same _,.same _,.same _,trivial⟩,(.d (.d (bk h λj L h=>(bT (y0 L) ⟨rfl,DR.bd b m,_,are _,rfl,rfl,_,(cp g c.toNat [pI a,pI (bm (a+1)),.str j,.eg 4 e.af.length 24 f k]),jI,TN ⟨.same _,.same _,.same _,.same _,trivial⟩,?_⟩))))⟩))⟩;refine .ex [.row ai 4 a0.length 24 (cp g c.toNat [pI a,pI (bm (a+1)),.str j,.own 1 0 0 e.af.length]),.row 0 4 e.af.length 24 f] (exs 0 3 [pI a,pI (bm (a+1)),.str j,.eg 4 e.af.length 24 f k] [pI a,pI (bm (a+1)),.str j,.own 1 0 0 e.af.length] (cp g c.toNat [pI a,pI (bm (a+1)),.str j,.own 1 0 0 e.af.length]) (DR.lt b m) jI jI TO rfl rfl rfl rfl) (.d ⟨rfl,DR.bd b m,_,are _,rfl,rfl,_,jI,?_⟩);obtain⟨⟨O,n⟩,H,h⟩:=bd h;refine MP (B _ _ _ H _ _ _ s) [1] ⟨(L6 s),⟨⟩⟩ λt u=>?_;refine .ab 0 c.toNat 3 1 _ (λ_=>qK (DR.lt b m) (u).po) λv=>?_;have I:DR ae.D a0.length (cp g c.toNat [pI a,pI (bm (a+1)),.str j,.eg 4 e.af.length 24 t v]) (l.set c.toNat (ae.mk a (bm (a+1)) j n)):=DR.set b (oL m) (ae.bn (x:=(ae.mk a (bm (a+1)) j n)) u:ae.D [pI a,pI (bm (a+1)),.str j,.eg 4 e.af.length 24 t v] (ae.mk a (bm (a+1)) j n));exact lg (C _ _ _ _ _ h _ I rfl rfl) (tk [0] ⟨.oe,.i,.i,⟨⟩⟩ KL);exact ct ⟨_,_,g,b,si h,rfl,rfl⟩ (tk [0] BT KL);rintro _ _ ⟨y1,z,w,M,rfl,rfl,rfl⟩;replace h:=ve;refine .d ?_;obtain rfl:=si h;exact en [0] ⟨w,M,rfl,rfl⟩ .i KL;intro F0 F1 ou ow a0 l a c o h;exact .mk F0 ou F1 ow a0 l a c o h
theorem ET {a0:List ae} {a1:Int} {r:Int×(List ae)} {ai:Nat} {a:Nat} {cP:Nat->List PV} (h:iI a0 a1=some r) (c8:DR ae.D a cP a0):ACall Tryz.prog 28 [.own 0 ai 0 a,pI a1] [.row ai 4 a 24 cP] (λres h=>∃F0:Nat->List PV,DR ae.D a F0 r.2/\res=pI r.1/\h=[.row ai 4 a 24 F0]):=Cf.1 a0 a1 r h ai a cP c8
def oN (a0:ae) (a1:Int):Option (Int×ae):=iI a0.af a1>>=λ(a,b)=>some (a,(ae.mk a0.ah a0.aF a0.ak b))
theorem HQ {a0:ae} {a1:Int} {r:Int×ae} {ai:Nat} {a:Nat} {cP:Nat->List PV} (h:oN a0 a1=some r) (c8:DR ae.D a cP a0.af):ACall Tryz.prog 14 [.agg [pI a0.ah,pI a0.aF,.str a0.ak,.own 0 ai 0 a],pI a1] [.row ai 4 a 24 cP] (λres h=>∃F0:Nat->List PV,DR ae.D a F0 r.2.af/\res=pI r.1/\h=[.row ai 4 a 24 F0]):=by
 obtain rfl:=c8.len;refine dY Tryz.func14 ?_;unfold oN at h;refine .d (.d ⟨rfl,rfl,_,rfl,?_⟩);obtain⟨⟨f,g⟩,b,h⟩:=bd h;refine MP (ET (ai:=ai) b c8) [0] ⟨(L6 c8),⟨⟩⟩ λc e=>?_;refine .d ?_;obtain rfl:=si h;exact en [0] ⟨c,e,rfl,rfl⟩ .i KL
set_option maxRecDepth 100000
mutual
def gN (a0:List ae) (a1:Int):Option (Int):=((gI a0 a1 0:Option ((Int) ⊕ Int))>>=λa=>match a with | .inr r=>some r | .inl y1=>some y1) partial_fixpoint
def gI (a0:List ae) (y5:Int) (y6:Int):Option ((Int) ⊕ Int):=if y6<(a0.length:Int)then idx a0 y6>>=λc=>if c.ah=y5 then idx a0 y6>>=λd=>if d.aF=(bm (y5+1))then idx a0 y6>>=λe=>jK (bm ((bm (y5+1))+1))>>=λf=>if e.ak=f then idx a0 y6>>=λb=>gN b.af (bm ((bm ((bm (y5+1))+1))+1))>>=λa=>if a<0 then some (.inr (-1))else gI a0 a (bm (y6+1))else some (.inr (-1))else some (.inr (-1))else some (.inr (-1))else some (.inl y5) partial_fixpoint
end
def aal (a0:List ae) (a1:Int) (r:Int):Prop:=ACall Tryz.prog 29 [sl 4 ae.cells a0,pI a1] [] (λres h=>res=pI r/\h=[])
inductive jc:(List ae)->Int->Int->((Int) ⊕ Int)->Prop
 | mk (G29:(List ae)->Int->Option (Int)) (aNl:∀a0 a1 r,G29 a0 a1=some r->aal a0 a1 r) (rT:(List ae)->Int->Int->Option ((Int) ⊕ Int)) (P0:∀a0 y5 y6 o,rT a0 y5 y6=some o->jc a0 y5 y6 o) (a0:List ae) (y5:Int) (y6:Int) (o:(Int) ⊕ Int) (h:(
 (if y6<(a0.length:Int)then
 idx a0 y6>>=λEu=>
 (if Eu.ah=y5 then
 idx a0 y6>>=λHG=>
 (if HG.aF=(bm (y5+1))then
 idx a0 y6>>=λyZ=>
 jK (bm ((bm (y5+1))+1))>>=λox=>
 (if yZ.ak=ox then
 idx a0 y6>>=λx22=>
 G29 x22.af (bm ((bm ((bm (y5+1))+1))+1))>>=λv24=>
 (if v24<0 then
 some (.inr (-1))
 else
 rT a0 v24 (bm (y6+1)))
 else
 some (.inr (-1)))
 else
 some (.inr (-1)))
 else
 some (.inr (-1)))
 else
 some (.inl y5))
 )=some o):jc a0 y5 y6 o
theorem Cg:(∀a0 a1 r,gN a0 a1=some r->aal a0 a1 r)/\(∀a0 y5 y6 o,gI a0 y5 y6=some o->jc a0 y5 y6 o):=by
 refine gN.mutual_partial_correctness aal jc ?_ ?_;intro _ b a0 a1 r h;refine dY Tryz.func29 ?_;refine .d ?_;obtain⟨k,h,Em⟩:=bd h;refine .cut (λσ η=>∃y1,.inl y1=k/\σ=[(1,pI y1)]/\η=[]) ?_ ?_;refine .d ?_;have c:=b _ _ _ _ h;refine le (jc.rec (motive:=λa y5 y6 l _=>a0=a->k=l->aG _ _ [(0,sl 4 ae.cells a0),(1,pI y5),(5,pI y6)] []) ?_ c rfl rfl) (tk [] Dr ⟨⟩);intro _ e _ _ a y5 y6 l h f  g i;subst g;subst i;refine aG.round (.d (.d (sD h (λs h=>?_) (λs h=>?_))));refine .d (.d (.d (bk h λt m h=>⟨aW m,_,(aK m).trans (ae.aC t),(sN h (λu h=>?_) (λu h=>?_))⟩)));refine .d ?_;exact aQN;refine .d (.d (.d (bk h λv n h=>⟨aW n,_,(aK n).trans (ae.aC v),(sN h (λw h=>?_) (λw h=>?_))⟩)));refine .d ?_;exact aQN;refine .d (.d (.d (.float [(0,true),(1,true),(2,true),(3,true),(4,true),(5,true),(6,false),(7,true)] aRP ?_)));refine bk h λx p h=>⟨aW p,_,(aK p).trans (ae.aC x),(bk h λD y h=>(bT (y0 y) (VA h (λz h=>?_) (λz h=>?_))))⟩;refine .d ?_;exact aQN;refine .d (.d (bk h λj q h=>⟨aW q,_,(aK q).trans (ae.aC j),(bk h λA B h=>(bT (e _ _ _ B) (.d (sD h (λC h=>?_) (λC h=>?_)))))⟩));refine .d ?_;exact aQN;exact lg (f _ _ _ _ h rfl rfl) (tk [] Dr ⟨⟩);exact aRn;exact aQF;exact aQV
theorem EU {a0:List ae} {a1:Int} {r:Int} (h:gN a0 a1=some r):ACall Tryz.prog 29 [sl 4 ae.cells a0,pI a1] [] (λres h=>res=pI r/\h=[]):=Cg.1 a0 a1 r h
def oO (a0:ae) (a1:Int):Option (Int):=gN a0.af a1>>=λa=>if a<0 then some (-1)else some a
theorem HR {a0:ae} {a1:Int} {r:Int} (h:oO a0 a1=some r):alA 15 a0 a1 r:=by
 refine dY Tryz.func15 ?_;unfold oO at h;refine .d (.d ⟨rfl,rfl,_,rfl,(bk h λc a h=>(bT (EU a) (.d (.d (sD h (λb h=>?_) (λb h=>?_))))))⟩);exact aRj;exact aRj
set_option maxRecDepth 100000
def nN (a0:fF) (a1:fF):Option (Bool):=if a0.n7=a1.n7 then nM a0.bO a1.bO>>=λa=>if a then some true else some false else some false
theorem CW {a0:fF} {a1:fF} {r:Bool} (h:nN a0 a1=some r):ACall Tryz.prog 6 [.agg a0.lit,.agg a1.lit] [] (λres h=>res=.bool r/\h=[]):=by
 refine dY Tryz.func6 ?_;unfold nN at h;refine .d (.d (.d ⟨rfl,rfl,_,rfl,rfl,rfl,_,rfl,(VA h (λa h=>?_) (λa h=>?_))⟩));exact aRh;refine .d (.d ⟨rfl,rfl,_,rfl,rfl,rfl,_,rfl,(bk h λe b h=>(bT (MU b) (gp h (λc h=>?_) (λc h=>?_))))⟩);exact aRh;exact aRh
def oP (a0:fF) (a1:Int):Option (Int×fF):=oN a0.bO a1>>=λ(a,b)=>some (a,(fF.mk a0.n7 (ae.mk a0.bO.ah a0.bO.aF a0.bO.ak b.af)))
theorem HT {a0:fF} {a1:Int} {r:Int×fF} {ai:Nat} {a:Nat} {cP:Nat->List PV} (h:oP a0 a1=some r) (c8:DR ae.D a cP a0.bO.af):ACall Tryz.prog 7 [.agg [.str a0.n7,pI a0.bO.ah,pI a0.bO.aF,.str a0.bO.ak,.own 0 ai 0 a],pI a1] [.row ai 4 a 24 cP] (λres h=>∃F0:Nat->List PV,DR ae.D a F0 r.2.bO.af/\res=pI r.1/\h=[.row ai 4 a 24 F0]):=by
 obtain rfl:=c8.len;refine dY Tryz.func7 ?_;unfold oP at h;refine .d (.d ⟨rfl,rfl,_,rfl,?_⟩);obtain⟨⟨f,g⟩,b,h⟩:=bd h;refine MP (HQ (ai:=ai) b c8) [0] ⟨(L6 c8),⟨⟩⟩ λc e=>?_;refine .d ?_;obtain rfl:=si h;exact en [0] ⟨c,e,rfl,rfl⟩ .i KL
def mF (a0:fF) (a1:Int):Option (Int):=oO a0.bO a1>>=λa=>if a<0 then some (-1)else some a
theorem za {a0:fF} {a1:Int} {r:Int} (h:mF a0 a1=some r):ACall Tryz.prog 8 [.agg a0.lit,pI a1] [] (λres h=>res=pI r/\h=[]):=by
 refine dY Tryz.func8 ?_;unfold mF at h;refine .d (.d ⟨rfl,rfl,_,rfl,(bk h λc a h=>(bT (HR a) (.d (.d (sD h (λb h=>?_) (λb h=>?_))))))⟩);exact aRj;exact aRj
set_option maxRecDepth 100000
def j7 (a0:aE) (a1:aE):Option (Bool):=if(a0.length:Int)>1048576 then some true else if(a1.length:Int)>1048576 then some true else(oM a0 a1>>=λ(b,q)=>some (b.n7,b.bO.ah,b.bO.aF,b.bO.ak,b.bO.af,q):Option (aE×Int×Int×aE×(List ae)×Int))>>=λ(i,j,y5,k,l,m)=>mE a0 a1>>=λ(a,d)=>((nN a (fF.mk i (ae.mk j y5 k l))>>=λs=>(if s then if d=m then some (.inl ())else some (.inr false)else some (.inr false)):Option fL)>>=λe=>match e with | .inr r=>some r | .inl _=>oP a 1>>=λ(c,n)=>mF (fF.mk a.n7 (ae.mk a.bO.ah a.bO.aF a.bO.ak n.bO.af)) 1>>=λo=>(((if o<0 then some (.inr false)else some (.inl ())):Option fL)>>=λf=>match f with | .inr r=>some r | .inl _=>if o=c then mE a0 a1>>=λ(t,u)=>((nN t (fF.mk i (ae.mk j y5 k l))>>=λg=>(if g then if u=m then some (.inl ())else some (.inr false)else some (.inr false)):Option fL)>>=λh=>match h with | .inr r=>some r | .inl _=>mF (fF.mk a.n7 (ae.mk a.bO.ah a.bO.aF a.bO.ak n.bO.af)) 1>>=λp=>if p<0 then some false else if p=c then some true else some false)else some false))
theorem xh {a0:aE} {a1:aE} {r:Bool} (h:j7 a0 a1=some r):ACall Tryz.prog 3 [.str a0,.str a1] [] (λres h=>res=.bool r/\h=[]):=by
 refine dY Tryz.func3 ?_;unfold j7 at h;refine .d (.d (.d (sD h (λN h=>?_) (λN h=>?_))));exact aRh;refine .d (.d (sD h (λO h=>?_) (λO h=>?_)));exact aRh;obtain⟨P,h,Q⟩:=bd h;refine .cut (λσ η=>∃g,∃j,∃y5,∃k,∃b,∃v,∃l:Nat->List PV,DR ae.D b.length l b/\(g,j,y5,k,b,v)=P/\σ=[(0,.str a0),(1,.str a1),(5,.aA 0 0 0 0),(6,pI v)]/\η=[.row 0 5 1 26 (λ_=>[.str g,pI j,pI y5,.str k,.own 1 0 0 b.length]),.row 0 4 b.length 24 l]) ?_ ?_;obtain⟨⟨q,R⟩,S,h⟩:=bd h;refine aai (HO S) ?_;rintro _ _ ⟨w,x,rfl,rfl⟩;exact⟨.fV [.agg [.str q.n7,pI q.bO.ah,pI q.bO.aF,.str q.bO.ak,.own 0 0 0 q.bO.af.length],pI R],[.row 0 4 q.bO.af.length 24 w],rfl,(by simp only[aOC,aPb,shr,shd x];rfl),rfl,_,_,rfl,al,(ct ⟨_,_,_,_,_,_,w,x,si h,rfl,rfl⟩ (tk [1,0] ⟨.s,.s,.p,.i,⟨⟩⟩ ⟨(nb rfl ⟨.s,.i,.i,.s,.oe,⟨⟩⟩),yE,⟨⟩⟩))⟩;rintro _ _ ⟨g,j,y5,k,b,v,l,M,rfl,rfl,rfl⟩;replace h:=Q;refine .d ?_;obtain⟨⟨a,C⟩,T,h⟩:=bd h;refine aai (yY T) ?_;rintro _ _ ⟨y,e,rfl,rfl⟩;refine⟨.fV [.agg [.str a.n7,pI a.bO.ah,pI a.bO.aF,.str a.bO.ak,.own 2 0 0 a.bO.af.length],pI C],[.row 0 5 1 26 (λ_=>[.str g,pI j,pI y5,.str k,.own 1 0 0 b.length]),.row 0 4 b.length 24 l,.row 0 4 a.bO.af.length 24 y],rfl,(by simp only[aOC,aPb,shr,shd e];rfl),rfl,_,_,rfl,al,?_⟩;obtain⟨E,h,m⟩:=bd h;refine .cut (λσ η=>.inl ()=E/\σ=[(0,.str a0),(1,.str a1),(5,.aA 0 0 0 0),(6,pI v),(7,.aA 2 0 0 0)]/\η=[.row 0 5 1 26 (λ_=>[.str g,pI j,pI y5,.str k,.own 1 0 0 b.length]),.row 0 4 b.length 24 l,.row 0 5 1 26 (λ_=>[.str a.n7,pI a.bO.ah,pI a.bO.aF,.str a.bO.ak,.own 3 0 0 a.bO.af.length]),.row 0 4 a.bO.af.length 24 y]) ?_ ?_;refine .d ⟨rfl,_,rfl,rfl,_,rfl,(bk h λzt U h=>(TL (CW U) ⟨.jH ⟨.s,.i,.i,.s,(.rd e),⟨⟩⟩,.jH ⟨.s,.i,.i,.s,(.rd M),⟨⟩⟩,⟨⟩⟩ (gp h (λV h=>?_) (λV h=>?_))))⟩;refine .t (.t (.t (.t (.d ?_))));obtain rfl:=si h;exact eB m;refine .f (.f (.f (sN h (λW h=>?_) (λW h=>?_))));refine .d ?_;obtain rfl:=si h;exact eB m;exact ct ⟨si h,rfl,rfl⟩ (tk [0,1,3,2] ⟨.s,.s,.p,.i,.p,⟨⟩⟩ auu);rintro _ _ ⟨rfl,rfl,rfl⟩;replace h:=m;refine .d (.d ⟨rfl,_,rfl,?_⟩);obtain⟨⟨z,zx⟩,X,h⟩:=bd h;refine MP (HT (ai:=0) X e) [3] ⟨(L6 e),⟨⟩⟩ λn c=>?_;refine .d (.d ⟨rfl,_,rfl,(bk h λY Z h=>(TL (za Z) ⟨.jH ⟨.s,.i,.i,.s,(.rd c (by first | rfl | exact c.len | exact c.len.symm)),⟨⟩⟩,.i,⟨⟩⟩ ?_))⟩);obtain⟨F,h,A⟩:=bd h;refine .cut (λσ η=>.inl ()=F/\σ=[(0,.str a0),(1,.str a1),(5,.aA 0 0 0 0),(6,pI v),(7,.aA 2 0 0 0),(9,pI z),(10,pI Y)]/\η=[.row 0 5 1 26 (λ_=>[.str g,pI j,pI y5,.str k,.own 1 0 0 b.length]),.row 0 4 b.length 24 l,.row 0 5 1 26 (λ_=>[.str a.n7,pI a.bO.ah,pI a.bO.aF,.str a.bO.ak,.own 3 0 0 a.bO.af.length]),.row 0 4 a.bO.af.length 24 n]) ?_ ?_;refine .d (sD h (λG h=>?_) (λG h=>?_));refine .d ?_;obtain rfl:=si h;exact eB A;exact ct ⟨si h,rfl,rfl⟩ (tk [0,1,2,3] ⟨.s,.s,.p,.i,.p,.i,.i,⟨⟩⟩ auu);rintro _ _ ⟨rfl,rfl,rfl⟩;replace h:=A;refine .d (.d (sN h (λKb h=>?_) (λKb h=>?_)));exact aRh;refine .d ?_;obtain⟨⟨u,wZ⟩,H,h⟩:=bd h;refine aai (yY H) ?_;rintro _ _ ⟨I,B,rfl,rfl⟩;refine⟨.fV [.agg [.str u.n7,pI u.bO.ah,pI u.bO.aF,.str u.bO.ak,.own 4 0 0 u.bO.af.length],pI wZ],[.row 0 5 1 26 (λ_=>[.str g,pI j,pI y5,.str k,.own 1 0 0 b.length]),.row 0 4 b.length 24 l,.row 0 5 1 26 (λ_=>[.str a.n7,pI a.bO.ah,pI a.bO.aF,.str a.bO.ak,.own 3 0 0 a.bO.af.length]),.row 0 4 a.bO.af.length 24 n,.row 0 4 u.bO.af.length 24 I],rfl,(by simp only[aOC,aPb,shr,shd B];rfl),rfl,_,_,rfl,al,?_⟩;obtain⟨J,h,o⟩:=bd h;refine .cut (λσ η=>.inl ()=J/\σ=[(7,.aA 0 0 0 0),(9,pI z)]/\η=[.row 0 5 1 26 (λ_=>[.str a.n7,pI a.bO.ah,pI a.bO.aF,.str a.bO.ak,.own 1 0 0 a.bO.af.length]),.row 0 4 a.bO.af.length 24 n]) ?_ ?_;refine .d ⟨rfl,_,rfl,rfl,_,rfl,(bk h λaa Z2 h=>(TL (CW Z2) ⟨.jH ⟨.s,.i,.i,.s,(.rd B),⟨⟩⟩,.jH ⟨.s,.i,.i,.s,(.rd M),⟨⟩⟩,⟨⟩⟩ (gp h (λK h=>?_) (λK h=>?_))))⟩;refine .t (.t (.t (.t (.d ?_))));obtain rfl:=si h;exact eB o;refine .f (.f (.f (sN h (λL h=>?_) (λL h=>?_))));refine .d ?_;obtain rfl:=si h;exact eB o;exact ct ⟨si h,rfl,rfl⟩ (tk [2,3] HN ⟨(nb rfl ⟨.s,.i,.i,.s,.oe,⟨⟩⟩),yE,⟨⟩⟩);rintro _ _ ⟨rfl,rfl,rfl⟩;refine .d (.d ⟨rfl,_,rfl,(bk o λQX QZ h=>(TL (za QZ) ⟨.jH ⟨.s,.i,.i,.s,(.rd c (by first | rfl | exact c.len | exact c.len.symm)),⟨⟩⟩,.i,⟨⟩⟩ (.d (.d (sD h (λQE h=>?_) (λQE h=>?_))))))⟩);exact aRh;refine .d (.d (sN h (λEC h=>?_) (λEC h=>?_)));exact aRh;exact aRh
set_option maxRecDepth 100000
theorem sb {α β:Type} (a:α) (f:α->Option β):(some a>>=f)=f a:=rfl
theorem fq {s:aE} {i:Nat} (h:i<s.length):hJ s (i:Int)=some (s.getD i 0):=by
 unfold hJ;rw[An ⟨by omega,by omega⟩];rfl
theorem dP {α:Type} [Inhabited α] {l:List α} {i:Nat} (h:i<l.length):idx l (i:Int)=some l[i]:=by
 unfold idx;rw[An ⟨by omega,by omega⟩];simp [aOp,h]
theorem lj {x:Int} {n:Nat} (h:x=(n:Int)) (a:n<=9223372036854775807):bm x=(n:Int):=by
 subst h;exact w64 aRK aRK
theorem bz {i:Nat} (h:i<9223372036854775807):bm ((i:Int)+1)=((i+1:Nat):Int):=lj aRK aRK
theorem kK {α:Type} {b:Nat} {l m:List α} (h:(l.length+m.length)*b<=140737488355328):cQ b l m=some (l++m):=An h
theorem uw (a b c:Int):PN a b c=some (decide (b<=a/\a<=c)):=by
 unfold PN;by_cases h:b<=a
 ·rw[An h];congr 1;simp;omega
 ·rw[mg h];congr 1;symm;rw[aQa];omega
theorem tc (a b c:Int):yO a b c=some (decide (b<=a/\a<=c)):=by
 unfold yO;by_cases h:a>=b
 ·rw[An h];congr 1;simp;omega
 ·rw[mg h];congr 1;symm;rw[aQa];omega
def isLet (b:UInt8):Bool:=decide (65<=b.toNat/\b.toNat<=90)||decide (97<=b.toNat/\b.toNat<=122)
def ra (b:UInt8):Bool:=decide (48<=b.toNat/\b.toNat<=57)
theorem Q6 (b:UInt8):oD (b.toNat:Int)=some (isLet b):=by
 unfold oD isLet;by_cases h:(b.toNat:Int)>=65
 ·rw[An h];by_cases h2:(b.toNat:Int)<=90
  ·rw[An h2];congr 1;symm;simp;omega
  ·rw[mg h2];by_cases a:(b.toNat:Int)>=97
   ·rw[An a];congr 1;rw[aPG];simp;omega
   ·rw[mg a];congr 1;symm;simp;omega
 ·rw[mg h,mg aRK];congr 1;symm;simp;omega
theorem KM (b:UInt8):lJ (b.toNat:Int)=some (ra b):=by
 unfold lJ ra;by_cases h:(b.toNat:Int)>=48
 ·rw[An h];congr 1;rw[aPG];simp;omega
 ·rw[mg h];congr 1;symm;simp;omega
theorem wb (b:UInt8):bm (b.toNat:Int)=(b.toNat:Int):=by
 have:=b.toNat_lt;exact w64 aRK aRK
theorem D5 (b:UInt8):lz (b.toNat:Int)=some (isLet b||decide (b.toNat=95)):=by
 unfold lz isLet;rw[wb,tc,sb];by_cases h:(97:Int)<=(b.toNat:Int)/\(b.toNat:Int)<=122
 ·rw[An aRT];congr 1;symm;simp;omega
 ·rw[mg aRT,tc,sb];by_cases h2:(65:Int)<=(b.toNat:Int)/\(b.toNat:Int)<=90
  ·rw[An aRT];congr 1;symm;simp;omega
  ·rw[mg aRT];congr 1;rw[aPG];simp;omega
theorem D6 (b:UInt8):kH (b.toNat:Int)=some (ra b):=by
 unfold kH ra;rw[wb,tc,sb];congr 1;rw[aPG];simp;omega
def xi (s:aE):Nat->Nat->Nat
 | 0,i=>i
 | f+1,i=>if i<s.length then(if isLet (s.getD i 0)||decide ((s.getD i 0).toNat=95)||(decide (0<i)&&ra (s.getD i 0))then xi s f (i+1)else i)else i
theorem MV (s:aE) (hs:s.length<9223372036854775807):∀(f i:Nat),s.length<=i+f->i<=s.length->da s (i:Int)=some ((xi s (f+1) i:Nat):Int)
 | f,i,h,hi=>by
  rw[da,xi];by_cases hc:i<s.length
  ·rw[An aRK,An hc,fq hc,sb,Q6,sb,bz aRK];obtain⟨g,rfl⟩:∃g,f=g+1:=⟨f - 1,by omega⟩;have a:=MV s hs g (i+1) aRK aRK;cases c:isLet (s.getD i 0)
   ·rw[mg aRN,sb];by_cases b:(s.getD i 0).toNat=95
    ·rw[An aRK,a,An (by simp only[b,eq_self,decide_true,aPl,aPa])]
    ·rw[mg aRK];by_cases h0:0<i
     ·rw[An aRK,sb,KM,sb];cases hd:ra (s.getD i 0)
      ·rw[mg aRN,mg (by simp only[b,decide_false,aOs,aOP,aOt];simp)]
      ·rw[An rfl,a,An (by simp only[h0,decide_true,aPw,aPl])]
     ·rw[mg aRK,mg (by simp only[b,h0,decide_false,aPC,aOs];simp)]
   ·rw[An rfl,a,An aRN]
  ·rw[mg aRK,mg hc]
theorem MW (s:aE) (hs:s.length<9223372036854775807):∀(f i:Nat),s.length<=i+f->i<=s.length->fe s 0 (i:Int)=some ((xi s (f+1) i:Nat):Int)
 | f,i,h,hi=>by
  rw[fe,xi];by_cases hc:i<s.length
  ·rw[An aRK,An hc,fq hc,sb,D5,sb,bz aRK];obtain⟨g,rfl⟩:∃g,f=g+1:=⟨f - 1,by omega⟩;have a:=MW s hs g (i+1) aRK aRK;cases b:(isLet (s.getD i 0)||decide ((s.getD i 0).toNat=95))
   ·rw[mg aRN];by_cases h0:0<i
    ·rw[An aRK,sb,D6,sb];cases hd:ra (s.getD i 0)
     ·rw[mg aRN,mg aRN]
     ·rw[An rfl,a,An (by simp [h0])]
    ·rw[mg aRK,mg (by simp [h0])]
   ·rw[An rfl,a,An aRN]
  ·rw[mg aRK,mg hc]
theorem VS (s:aE):∃b,pK s=some b/\rM s=some b:=by
 unfold pK rM;by_cases h:s.length<=20
 ·rw[An aRK]
  have a:eD s=some ((xi s (s.length+1) 0:Nat):Int):=by
   unfold eD;have:=MV s aRK s.length 0 aRK aRK;rw[show((0:Nat):Int)=0 from rfl]at this;rw[this,sb]
  have e2:jA s 0=some ((xi s (s.length+1) 0:Nat):Int):=by
   unfold jA;have:=MW s aRK s.length 0 aRK aRK;rw[show((0:Nat):Int)=0 from rfl]at this;rw[this,sb]
  rw[a,sb,e2];cases s with
  | nil=>exact⟨_,rfl,rfl⟩
  | cons c r=>
   rw[An (show((c::r).length:Int)>=1 by simp;omega),An (show((c::r).length:Int)<=20 by omega),sb];by_cases he:xi (c::r) ((c::r).length+1) 0=(c::r).length
   ·rw[An aRK];refine⟨_,rfl,?_⟩;congr 1;simp only[aOm,he];simp
   ·rw[mg aRK];refine⟨_,rfl,?_⟩;congr 1;rw[an];omega
 ·rw[mg aRK];refine⟨_,rfl,?_⟩;rw[An aRK,mg aRK]
def Dz:List aE:=[[101,99,104,111],[105,102],[101,108,115,101],[119,104,105,108,101],[102,111,114,101,97,99,104],[97,115],[98,114,101,97,107],[99,111,110,116,105,110,117,101],[114,101,116,117,114,110],[103,108,111,98,97,108],[117,110,115,101,116],[116,104,114,111,119],[116,114,121],[99,97,116,99,104],[102,105,110,97,108,108,121],[121,105,101,108,100],[105,110,99,108,117,100,101],[102,117,110,99,116,105,111,110],[99,108,97,115,115],[116,114,97,105,116],[101,120,116,101,110,100,115],[117,115,101],[112,114,105,118,97,116,101],[115,116,97,116,105,99],[110,101,119],[116,114,117,101],[102,97,108,115,101],[110,117,108,108]]
theorem TP (s:aE):∀(f k:Nat),Dz.length<=k+f->jB s (k:Int)=some (if(Dz.drop k).any (λx=>decide (s=x))then .inr true else .inl ())
 | f,k,h=>by
  rw[jB];change (if(k:Int)<(Dz.length:Int)then idx Dz (k:Int)>>=_ else _)=_
  by_cases hc:k<Dz.length
  ·have a:Dz.length=28:=rfl;rw[An aRK,dP hc,sb,bz aRK,aOq hc,aPH];by_cases he:Dz[k]=s
   ·rw[An he,An (by rw[<-he];simp)]
   ·obtain⟨g,rfl⟩:∃g,f=g+1:=⟨f - 1,by omega⟩;rw[mg he,TP s g (k+1) aRK,aOS (λh=>he h.symm),aOt]
  ·rw[mg aRK,aOk aRK];rfl
theorem eA {s x:aE} {b:Bool} {z:Option Bool} (h:z=some b):(if s=x then some true else z)=some (decide (s=x)||b):=by
 subst h;by_cases h:s=x
 ·rw[An h,aPs h,aPa]
 ·rw[mg h,aOS h,aOt]
theorem agJ (s:aE):lL s=some (Dz.any λx=>decide (s=x)):=by
 unfold lL;have:=TP s Dz.length 0 aRK;rw[show((0:Nat):Int)=0 from rfl,aOu]at this;rw[this,sb];cases hc:Dz.any (λx=>decide (s=x))
 ·rfl
 ·rfl
theorem agK (s:aE):lK s=some (Dz.any λx=>decide (s=x)):=by
 have e:Dz.any (λx=>decide (s=x))=(decide (s=([101,99,104,111]:aE))||(decide (s=([105,102]:aE))||(decide (s=([101,108,115,101]:aE))||(decide (s=([119,104,105,108,101]:aE))||(decide (s=([102,111,114,101,97,99,104]:aE))||(decide (s=([97,115]:aE))||(decide (s=([98,114,101,97,107]:aE))||(decide (s=([99,111,110,116,105,110,117,101]:aE))||(decide (s=([114,101,116,117,114,110]:aE))||(decide (s=([103,108,111,98,97,108]:aE))||(decide (s=([117,110,115,101,116]:aE))||(decide (s=([116,104,114,111,119]:aE))||(decide (s=([116,114,121]:aE))||(decide (s=([99,97,116,99,104]:aE))||(decide (s=([102,105,110,97,108,108,121]:aE))||(decide (s=([121,105,101,108,100]:aE))||(decide (s=([105,110,99,108,117,100,101]:aE))||(decide (s=([102,117,110,99,116,105,111,110]:aE))||(decide (s=([99,108,97,115,115]:aE))||(decide (s=([116,114,97,105,116]:aE))||(decide (s=([101,120,116,101,110,100,115]:aE))||(decide (s=([117,115,101]:aE))||(decide (s=([112,114,105,118,97,116,101]:aE))||(decide (s=([115,116,97,116,105,99]:aE))||(decide (s=([110,101,119]:aE))||(decide (s=([116,114,117,101]:aE))||(decide (s=([102,97,108,115,101]:aE))||(decide (s=([110,117,108,108]:aE))||false)))))))))))))))))))))))))))):=rfl;rw[e];unfold lK;exact(eA (eA (eA (eA (eA (eA (eA (eA (eA (eA (eA (eA (eA (eA (eA (eA (eA (eA (eA (eA (eA (eA (eA (eA (eA (eA (eA (eA rfl))))))))))))))))))))))))))))
theorem TQ (s:aE):∃b,bE s=some b/\dZ s=some b:=by
 obtain⟨b,h1,h2⟩:=VS s;unfold bE dZ;rw[h1,h2,sb,sb,agK,agJ];cases b
 ·exact⟨_,rfl,rfl⟩
 ·exact⟨_,rfl,rfl⟩
def good (s:aE):Bool:=(bE s).getD false
theorem ux (s:aE):bE s=some (good s):=by obtain⟨v,h,_⟩:=TQ s;rw[good,h];rfl
theorem TR (s:aE):dZ s=some (good s):=by obtain⟨v,h,h2⟩:=TQ s;rw[good,h,h2];rfl
end Go.Am
namespace Go.Am
open Go Go.RowKit Go.Proofs
theorem KN (a b c:Int):yO a b c=some (decide (b<=a/\a<=c)):=by
 unfold yO;by_cases h:a>=b
 ·rw[An h];congr 1;simp;omega
 ·rw[mg h];congr 1;symm;rw[aQa];omega
theorem AU:∀(k u:Nat),u<10 ^ (k+1)->Lib.nDigits u<=k+1
 | 0,u,h=>by rw[Lib.nDigits_small aSi];exact Of _
 | k+1,u,h=>by
  by_cases h1:u<10
  ·rw[Lib.nDigits_small h1];omega
  ·rw[Lib.nDigits_big h1];have:=AU k (u / 10) (by rw[Nat.pow_succ]at h;omega);omega
theorem EV (u:Nat):Lib.decDigits u=(if u / 10=0 then[]else Lib.decDigits (u / 10))++[UInt8.ofNat (48+u % 10)]:=by
 by_cases h:u<10
 ·rw[An aRK,Lib.decDigits,dif_pos h,show u % 10=u by omega];rfl
 ·rw[mg aRK];conv=>lhs;rw[Lib.decDigits,dif_neg h]
theorem aao:∀(k:Nat) (out:aE) (m:Int),m.natAbs<10 ^ k-> -9223372036854775808<=m->m<=9223372036854775807->k+out.length<=1000->
  w9 out m=some ((if m=0 then[]else Lib.decDigits m.natAbs)++out)
 | 0,out,m,h,_,_,_=>by
  have:m=0:=by simp at h;exact h
  subst this;rw[w9,An rfl,An rfl];rfl
 | k+1,out,m,h,h0,h1,f=>by
  rw[w9];by_cases hm:m=0
  ·rw[An hm,An hm];rfl
  rw[mg hm,mg hm];have ab:(m.tmod 10).natAbs=m.natAbs % 10:=Int.natAbs_tmod m 10;have c:(m.tdiv 10).natAbs=m.natAbs / 10:=Int.natAbs_tdiv m 10;have e:bm (m.tdiv 10)=m.tdiv 10:=by rw[bm,w64]<;>omega
  have fin:∀d:Int,d=((m.natAbs % 10:Nat):Int)->UInt8.ofNat (IntKind.u8.wrap (bm (48+d))).toNat=UInt8.ofNat (48+m.natAbs % 10):=λd hd=>by
   subst hd;rw[bm,w64 aRK aRK,IntKind.wrap_u8];congr 1;omega
  have next:w9 ([UInt8.ofNat (48+m.natAbs % 10)]++out) (bm (m.tdiv 10))=some (Lib.decDigits m.natAbs++out):=by
   rw[e,aao k _ _ (by rw[Nat.pow_succ]at h;omega) aRK aRK aRT,EV m.natAbs,c,aOQ];by_cases h:m.tdiv 10=0
   ·rw[An h,An aRK]
   ·rw[mg h,mg aRK]
  have hs:∀b:UInt8,yz [b] out=some ([b]++out):=λb=>An aRT;by_cases a:m.tmod 10<0
  ·rw[An a,hs,sb,fin _ (by rw[bm,w64]<;>omega),next]
  ·rw[mg a,hs,sb,fin _ aRK,next]
theorem amU (n:Int) (h0: -9223372036854775808<=n) (h1:n<=9223372036854775807):m94 n=some (Lib.itoa n):=by
 unfold m94;by_cases h:n=0
 ·subst h;rw[An rfl,show Lib.itoa 0=[48] by decide +kernel]
 rw[mg h,aao 20 [] n (by simp only[Nat.reducePow];omega) h0 h1 aRN,sb,mg h,aOW];unfold Lib.itoa;have b:(Lib.decDigits n.natAbs).length<=20:=by rw[Lib.decDigits_length];exact AU 19 _ aSf
 by_cases a:n<0
 ·rw[An a,An a,yz,An aRT];rfl
 ·rw[mg a,mg a,show n.natAbs=n.toNat by omega]
def auw (s:List UInt8):Option Nat->Option Nat
 | some v=>if v<=1000000000000/\Lib.decDigits v=s then some v else none
 | none=>none
def tM (s:List UInt8):Option Nat:=if 1<=s.length/\s.length<=13 then auw s (Lib.decFrom 0 s)else none
theorem KO {v:Nat} {c:UInt8} {r:List UInt8} (h:48<=c.toNat/\c.toNat<=57):Lib.decFrom v (c::r)=Lib.decFrom (v*10+(c.toNat - 48)) r:=by
 show(match Lib.digitVal c with | some d=>Lib.decFrom (v*10+d) r | none=>none)=_;rw[Lib.digitVal,An h]
theorem MX {v:Nat} {c:UInt8} {r:List UInt8} (h:¬(48<=c.toNat/\c.toNat<=57)):Lib.decFrom v (c::r)=none:=by
 show(match Lib.digitVal c with | some d=>Lib.decFrom (v*10+d) r | none=>none)=_;rw[Lib.digitVal,mg h]
theorem drop_cons {s:aE} {i:Nat} (h:i<s.length):s.drop i=s.getD i 0::s.drop (i+1):=by
 rw[aOq h,aOp];simp [h]
theorem sOp (n:Int) (h1:1<=n) (h2:n<=15):∃s,jC n=some s/\rp n=some s/\∃k,mA n=some k/\lN n=some k/\6<=k/\k<=10:=by
 obtain⟨k,rfl⟩:∃k:Nat,n=(k:Int):=⟨n.toNat,by omega⟩;have a:k<=15:=by omega
 have h4:1<=k:=by omega
 match k,a,h4 with
 | 1,_,_=>exact⟨_,rfl,rfl,_,rfl,rfl,by decide,by decide⟩
 | 2,_,_=>exact⟨_,rfl,rfl,_,rfl,rfl,by decide,by decide⟩
 | 3,_,_=>exact⟨_,rfl,rfl,_,rfl,rfl,by decide,by decide⟩
 | 4,_,_=>exact⟨_,rfl,rfl,_,rfl,rfl,by decide,by decide⟩
 | 5,_,_=>exact⟨_,rfl,rfl,_,rfl,rfl,by decide,by decide⟩
 | 6,_,_=>exact⟨_,rfl,rfl,_,rfl,rfl,by decide,by decide⟩
 | 7,_,_=>exact⟨_,rfl,rfl,_,rfl,rfl,by decide,by decide⟩
 | 8,_,_=>exact⟨_,rfl,rfl,_,rfl,rfl,by decide,by decide⟩
 | 9,_,_=>exact⟨_,rfl,rfl,_,rfl,rfl,by decide,by decide⟩
 | 10,_,_=>exact⟨_,rfl,rfl,_,rfl,rfl,by decide,by decide⟩
 | 11,_,_=>exact⟨_,rfl,rfl,_,rfl,rfl,by decide,by decide⟩
 | 12,_,_=>exact⟨_,rfl,rfl,_,rfl,rfl,by decide,by decide⟩
 | 13,_,_=>exact⟨_,rfl,rfl,_,rfl,rfl,by decide,by decide⟩
 | 14,_,_=>exact⟨_,rfl,rfl,_,rfl,rfl,by decide,by decide⟩
 | 15,_,_=>exact⟨_,rfl,rfl,_,rfl,rfl,by decide,by decide⟩
 | 0,_,h=>omega
 | k+16,h,_=>omega
mutual
def sz:ae->Nat | .mk _ _ _ k=>1+AV k
def AV:List ae->Nat | []=>0 | x::r=>sz x+AV r
end
mutual
def dp:ae->Nat | .mk _ _ _ k=>1+P1 k
def P1:List ae->Nat | []=>0 | x::r=>max (dp x) (P1 r)
end
theorem yh (n:ae):sz n=1+AV n.af:=by cases n;rfl
theorem TS (n:ae):dp n=1+P1 n.af:=by cases n;rfl
theorem AW:∀(l:List ae) (i:Nat) (h:i<l.length),AV (l.drop i)=sz l[i]+AV (l.drop (i+1))
 | x::r,0,h=>rfl
 | x::r,i+1,h=>AW r i aSi
theorem EW:∀(l:List ae) (i:Nat) (h:i<l.length),P1 (l.drop i)=max (dp l[i]) (P1 (l.drop (i+1)))
 | x::r,0,h=>rfl
 | x::r,i+1,h=>EW r i aSi
theorem EZ (n:ae):0<sz n:=by rw[yh];omega
theorem aap:∀(l:List ae) (i:Nat),AV (l.drop i)<=AV l
 | [],i=>by simp [AV]
 | x::r,0=>Of _
 | x::r,i+1=>aPr (aap r i) (by show AV r<=sz x+AV r;omega)
theorem KP (l:List ae) (i:Nat) (h:i<l.length):sz l[i]<=AV l:=by
 have:=AW l i h;have:=aap l i;omega
theorem AX:∀l:List ae,l.length<=AV l
 | []=>Of _
 | x::r=>by have:=AX r;have:=EZ x;simp only[At];show r.length+1<=sz x+AV r;omega
theorem MY:∀(k:Nat),(∀n:ae,sz n<=k->sz n<4611686018427387904->kI n=some (sz n:Int))
 | 0,n,h,_=>by have:=EZ n;omega
 | k+1,n,h,b=>by
  have hk:=yh n
  have go:∀(f i s:Nat),n.af.length<=i+f->s+AV (n.af.drop i)<4611686018427387904->jv n (s:Int) (i:Int)=some ((s+AV (n.af.drop i):Nat):Int):=by
   intro f;induction f with
   | zero=>
    intro i s h1 h2;rw[jv,mg aRK,aOk aRK];rfl
   | succ f a=>
    intro i s h1 h2;rw[jv];by_cases hc:i<n.af.length
    ·have hd:=AW n.af i hc;have c:=KP n.af i hc;have d:=AX n.af;rw[An aRK,dP hc,sb,MY k _ aRK aRK,sb,bz aRK,lj (n:=s+sz n.af[i]) aRK aRK,a (i+1) _ aRK aRK,hd,aQn]
    ·rw[mg aRK,aOk aRK];rfl
  have h0:=go n.af.length 0 1 aRK (by rw[aOu];omega);rw[kI];rw[show((1:Nat):Int)=1 from rfl,show((0:Nat):Int)=0 from rfl,aOu]at h0;rw[h0,sb,hk]
theorem auy (a b:Nat):m91 (a:Int) (b:Int)=some ((max a b:Nat):Int):=by
 unfold m91;by_cases h:a<b
 ·rw[An aRK,aQv aRK]
 ·rw[mg aRK,Nat.max_eq_left aRK]
theorem auz (a b:Nat):m93 (a:Int) (b:Int)=some ((max a b:Nat):Int):=by
 unfold m93;by_cases h:a<b
 ·first | rw[An aRK,aQv aRK] | rw[mg aRK,aQv aRK]
 ·by_cases h2:b<a
  ·first | rw[mg aRK,Nat.max_eq_left aRK] | rw[An aRK,Nat.max_eq_left aRK]
  ·obtain rfl:a=b:=by omega
   split<;>simp
mutual
theorem auA:∀n:ae,dp n<=sz n
 | .mk _ _ _ k=>by have:=D7 k;show 1+P1 k<=1+AV k;omega
theorem D7:∀l:List ae,P1 l<=AV l
 | []=>Of _
 | x::r=>by have:=auA x;have:=D7 r;show max (dp x) (P1 r)<=sz x+AV r;omega
end
theorem aaq:∀(k:Nat),(∀n:ae,sz n<=k->sz n<4611686018427387904->jW n=some (dp n:Int))
 | 0,n,h,_=>by have:=EZ n;omega
 | k+1,n,h,c=>by
  have hk:=yh n;have a:=TS n;have d:=AX n.af
  have go:∀(f i s:Nat),n.af.length<=i+f->iN n (s:Int) (i:Int)=some ((max s (P1 (n.af.drop i)):Nat):Int):=by
   intro f;induction f with
   | zero=>
    intro i s h1;rw[iN,mg aRK,aOk aRK];simp [P1]
   | succ f b=>
    intro i s h1;rw[iN];by_cases hc:i<n.af.length
    ·have e:=KP n.af i hc;rw[An aRK,dP hc,sb,aaq k _ aRK aRK,sb,auy,sb,bz aRK,b (i+1) _ aRK,EW n.af i hc,Nat.max_assoc]
    ·rw[mg aRK,aOk aRK];simp [P1]
  have h0:=go n.af.length 0 0 aRK;have g:=D7 n.af;rw[jW];rw[show((0:Nat):Int)=0 from rfl,aOu,Nat.zero_max]at h0;rw[h0,sb,lj (n:=P1 n.af+1) aRK aRK,a,Nat.add_comm]
theorem aar:∀(k:Nat),(∀n:ae,sz n<=k->sz n<4611686018427387904->jX n=some (dp n:Int))
 | 0,n,h,_=>by have:=EZ n;omega
 | k+1,n,h,c=>by
  have hk:=yh n;have a:=TS n;have d:=AX n.af
  have go:∀(f i s:Nat),n.af.length<=i+f->iP n (s:Int) (i:Int)=some ((max s (P1 (n.af.drop i)):Nat):Int):=by
   intro f;induction f with
   | zero=>
    intro i s h1;rw[iP,mg aRK,aOk aRK];simp [P1]
   | succ f b=>
    intro i s h1;rw[iP];by_cases hc:i<n.af.length
    ·have e:=KP n.af i hc;rw[An aRK,dP hc,sb,aar k _ aRK aRK,sb,auz,sb,bz aRK,b (i+1) _ aRK,EW n.af i hc,Nat.max_assoc]
    ·rw[mg aRK,aOk aRK];simp [P1]
  have h0:=go n.af.length 0 0 aRK;have g:=D7 n.af;rw[jX];rw[show((0:Nat):Int)=0 from rfl,aOu,Nat.zero_max]at h0;rw[h0,sb,lj (n:=P1 n.af+1) aRK aRK,a,Nat.add_comm]
theorem MZ:∀(k:Nat),(∀n:ae,sz n<=k->sz n<4611686018427387904->∀left:Int,0<=left->left<=600->∃v,lQ n left=some v/\ -4611686018427387904<v/\v<=600/\((sz n:Int)<=left->v=left - sz n)/\(left<sz n->v<0))
 | 0,n,h,_,_,_,_=>by have:=EZ n;omega
 | k+1,n,h,t,left,w,g=>by
  have hk:=yh n;have x:=AX n.af
  have go:∀(f i:Nat) (y:Int),n.af.length<=i+f-> -4611686018427387904<y->y<=600->∃v,j9 n y (i:Int)=some v/\ -4611686018427387904<v/\v<=600/\(0<=y->(AV (n.af.drop i):Int)<=y->v=y - AV (n.af.drop i))/\(y<AV (n.af.drop i)->v<0)/\(y<0->v<0):=by
   intro f;induction f with
   | zero=>
    intro i y h1 h2 a;rw[j9,mg aRK,aOk aRK];exact⟨y,rfl,h2,a,λ_ _=>by simp [AV],λq=>by simp [AV]at q;exact q,λq=>q⟩
   | succ f j=>
    intro i y h1 h2 a;rw[j9];by_cases hc:i<n.af.length
    ·have z:=KP n.af i hc;have hd:=AW n.af i hc;rw[An aRK];by_cases hy:0<=y
     ·obtain⟨v,d,e2,e,b,c⟩:=MZ k n.af[i] aRK aRK y hy a;obtain⟨u,l,g2,m,o,p,r⟩:=j (i+1) v aRK e2 e;rw[An hy,dP hc,sb,d,sb,bz aRK,l];refine⟨u,rfl,g2,m,λ_ q=>?_,λq=>?_,λq=>by omega⟩
      ·have:=b aRK;have:=o aRK aRK;omega
      ·by_cases s:(sz n.af[i]:Int)<=y
       ·have:=b s;exact p aRK
       ·exact r (c aRK)
     ·rw[mg hy];exact⟨y,rfl,h2,a,λq=>absurd q hy,λ_=>by omega,λq=>q⟩
    ·rw[mg aRK,aOk aRK];exact⟨y,rfl,h2,a,λ_ _=>by simp [AV],λq=>by simp [AV]at q;exact q,λq=>q⟩
  obtain⟨v,d,e2,e,b,c,A⟩:=go n.af.length 0 (left - 1) aRK aRK aRK;rw[aOu]at b c
  have hw:bm (left - 1)=left - 1:=by
   by_cases h0:left=0
   ·subst h0;decide
   ·rw[lj (n:=(left - 1).toNat) aRK aRK];omega
  rw[lQ,hw,show(0:Int)=((0:Nat):Int)from rfl,d,sb];refine⟨v,rfl,e2,e,λq=>?_,λq=>?_⟩
  ·have:=b aRK aRK;omega
  ·exact c aRK
theorem aas (n:ae) (a:sz n<4611686018427387904):nn n=some (decide (sz n<=600/\dp n<=30))/\oG n=some (decide (sz n<=600/\dp n<=30)):=by
 obtain⟨v,b,_,_,c,d⟩:=MZ (sz n) n (Of _) a 600 aRK aRK;unfold nn oG;rw[MY (sz n) n (Of _) a,b,sb,sb];by_cases h:sz n<=600
 ·have:=c aRK;rw[An aRK,An aRK,aar (sz n) n (Of _) a,aaq (sz n) n (Of _) a,sb];constructor<;>(congr 1;simp only[decide_eq_decide];omega)
 ·have:=d aRK;rw[mg aRK,mg aRK];constructor<;>(rw[aOS aRK])
set_option maxRecDepth 100000
theorem AY {s p:aE} {i:Nat} (hp:p≠[]) (h:¬i+p.length<=s.length):Lib.occAt s p i=false:=by
 cases hc:Lib.occAt s p i
 ·rfl
 ·rcases Lib.occAt_room hc with h2 | h2
  ·exact absurd h2 h
  ·exact absurd h2 hp
theorem TT {s p:aE} {i:Nat} (h:i+p.length<=s.length):((s.take (i+p.length)).drop i==p)=Lib.occAt s p i:=by
 rw[Lib.occAt_iff_take s p i h,aQk,aPn]
theorem DA {s p:aE} {i:Nat} (hp:p≠[]) (a:p.length<=10) (hi:i<=s.length) (hs:s.length<=4611686018427387904):iL s (i:Int) p=some (Lib.occAt s p i):=by
 unfold iL;rw[lj (x:=(s.length:Int) - (i:Int)) (n:=s.length - i) aRK aRK,lj (x:=(i:Int)+(p.length:Int)) (n:=i+p.length) aRK aRK];by_cases h:i+p.length<=s.length
 ·rw[An aRK,vd,An ⟨by omega,by omega,by omega⟩,sb,<-TT h];rfl
 ·rw[mg aRK,AY hp h]
theorem Q7 (n:ae) (hs:n.ak.length<=4611686018427387904):∀(f i:Nat) (b:Bool),n.ak.length<=i+f->i<=n.ak.length->
  ∃v,gB n b (i:Int)=some ((n.aF==0),v)/\(v=true↔b=true/\∀j,i<=j->j<n.ak.length->Lib.occAt n.ak [60,63] j=false)
 | f,i,b,h,hi=>by
  rw[gB];by_cases hc:i<n.ak.length
  ·obtain⟨g,rfl⟩:∃g,f=g+1:=⟨f - 1,by omega⟩;rw[An aRK,bz aRK];cases b
   ·rw[mg aRN];obtain⟨v,h1,h2⟩:=Q7 n hs g (i+1) false aRK aRK;exact⟨v,h1,by rw[h2];simp⟩
   ·rw[An rfl,DA aRN aRN hi hs,sb];obtain⟨v,h1,h2⟩:=Q7 n hs g (i+1) (!Lib.occAt n.ak [60,63] i) aRK aRK;refine⟨v,h1,?_⟩;rw[h2];constructor
    ·rintro⟨q,r⟩;refine⟨rfl,λj a c=>?_⟩;by_cases e:j=i
     ·subst e;simpa using q
     ·exact r j aRK c
    ·rintro⟨_,r⟩;exact⟨by simp [r i aRK hc],λj a c=>r j aRK c⟩
  ·rw[mg aRK];exact⟨b,rfl,⟨λq=>⟨q,λj a c=>by omega⟩,λq=>q.1⟩⟩
def t31 (t:aE):Bool:=!(t==([]:aE))&&!decide (0<=Lib.index t [60,63])
theorem amV (n:ae) (hs:n.ak.length<=4611686018427387904):gB n (!(n.ak==([]:aE))) 0=some ((n.aF==0),t31 n.ak):=by
 obtain⟨v,h1,h2⟩:=Q7 n hs n.ak.length 0 (!(n.ak==([]:aE))) aRK aRK;rw[show((0:Nat):Int)=0 from rfl]at h1;rw[h1];congr 2;rw[aPG,h2,t31,As];refine and_congr_right λ_=>?_;rcases Lib.index_spec n.ak [60,63]with⟨e,q⟩ | ⟨i,e,q1,q2,_⟩
 ·rw[e];exact⟨λ_=>by decide,λ_ j _ hj=>q j aRK⟩
 ·rw[e];constructor
  ·intro r;by_cases hi:i<n.ak.length
   ·rw[r i aRK hi]at q2;cases q2
   ·rw[AY aRN aRT]at q2;cases q2
  ·intro r;simp at r
theorem M1 (s:aE) (hs:s.length<=4611686018427387904):∀(f i:Nat),s.length<=i+f->i<=s.length->(∀j,j<i->Lib.occAt s [58,58] j=false)->
  kR s (i:Int)=some (if 0<=Lib.index s [58,58]then .inr (s.take (Lib.index s [58,58]).toNat,s.drop ((Lib.index s [58,58]).toNat+2))else .inl ())
 | f,i,h,hi,hj=>by
  rw[kR,bz aRK];by_cases hc:i+1<s.length
  ·obtain⟨g,rfl⟩:∃g,f=g+1:=⟨f - 1,by omega⟩;have b:=TT (s:=s) (p:=[58,58]) (i:=i) aRT;simp only[At,No]at b;rw[An aRK,lj (x:=(i:Int)+2) (n:=i+2) aRK aRK,vd,An ⟨by omega,by omega,by omega⟩,sb];show(if(s.take (i+2)).drop i=[58,58]then _ else _)=_;by_cases he:(s.take (i+2)).drop i=[58,58]
   ·have a:Lib.occAt s [58,58] i=true:=by rw[<-b];simpa using he
    have hx:=Lib.index_first aRK a hj;rw[An he,hx,An aRK,sto,An ⟨by omega,by omega⟩,sb,oE,An ⟨by omega,by omega⟩,sb];rfl
   ·have a:Lib.occAt s [58,58] i=false:=by rw[<-b,an];exact he
    rw[mg he];refine M1 s hs g (i+1) aRK aRK λj q=>?_;by_cases e:j=i
    ·subst e;exact a
    ·exact hj j aRK
  ·rw[mg aRK,Lib.index_none (s:=s) (sub:=[58,58]) λj q=>by
    by_cases e:j<i
    ·exact hj j e
    ·exact AY aRN aRT]
   rfl
def t21 (t:aE):Bool:=(Lib.cut t [58,58]).2.2&&((good (Lib.cut t [58,58]).1||(Lib.cut t [58,58]).1==([115,116,97,116,105,99]:aE))&&good (Lib.cut t [58,58]).2.1)
theorem aat:good []=false:=by
 have h:=ux [];unfold bE pK eD at h;rw[An aRL,da,mg aRL,sb,sb,An aRL,sb,mg aRL]at h;injection h with h;exact h.symm
theorem aau (s:aE) (hs:s.length<=4611686018427387904):∃a b,oF s=some (a,b)/\t21 s=((good a||a==([115,116,97,116,105,99]:aE))&&good b):=by
 have h:=M1 s hs s.length 0 aRK aRK (λj q=>by omega);rw[show((0:Nat):Int)=0 from rfl]at h;unfold oF;rw[h,sb];unfold t21 Lib.cut;by_cases hc:0<=Lib.index s [58,58]
 ·rw[An hc,An hc];exact⟨_,_,rfl,by rw[aPw];rfl⟩
 ·rw[mg hc,mg hc];exact⟨_,_,rfl,by simp [aat]⟩
theorem VT (s:aE) (hs:s.length<4294967281):oI s=some (t21 s):=by
 unfold oI vg t21;rw[An hs,sb];generalize Lib.cut s [58,58]=c;obtain⟨a,b,x⟩:=c;cases x
 ·rfl
 ·simp only[ux,sb,aOw,aPw];by_cases h:a=([115,116,97,116,105,99]:aE)
  ·rw[An h,h];simp
  ·rw[mg h];cases good a<;>simp [h]
theorem contains_eq (s:aE) (hs:s.length<4294967281):oH s [60,63]=some (decide (0<=Lib.index s [60,63])):=An hs
set_option maxRecDepth 100000
def tN (k m:Int):Bool:=
 if k=1 then decide (0<=m/\m<=1000000000)else if k=3 then decide (0<=m/\m<=2)else if k=9 then decide (1<=m/\m<=2)else if k=10 then decide (1<=m/\m<=15)
 else if k=54 then decide (0<=m/\m<=1)else if k=55 then decide (0<=m/\m<=3)else m==0
def nmK:List Int:=[4,8,17,18,20,40,44,49,50,51,52,53,54,55]
def wh (k:Int) (t:aE):Bool:=
 if k=2\/k=47 then decide ((t.length:Int)<=400)else if nmK.contains k then good t else if k=22 then good t||t==([115,116,97,116,105,99]:aE)else if k=21 then t21 t
 else if k=31 then t31 t else t==([]:aE)
def kds:List Int:=[1,2,3,4,8,9,10,17,18,20,21,22,31,40,44,47,49,50,51,52,53,54,55]
theorem Ch (k m:Int) (t:aE) (c:List ae) (hs:t.length<=4611686018427387904):ff (.mk k m t c)=some (tN k m,wh k t):=by
 unfold ff;simp only[ae.qo,ae.rq,ae.nz,ae.kg];by_cases h:k∈kds
 ·simp only[kds,aOz,aQu,or_false]at h;rcases h with h | h | h | h | h | h | h | h | h | h | h | h | h | h | h | h | h | h | h | h | h | h | h<;>subst h
  case inr.inr.inr.inr.inr.inr.inr.inr.inr.inr.inl=>
   obtain⟨a,b,d,e2⟩:=aau t hs;simp only[Int.reduceEq,aOn,aOw,d,sb,TR,tN,wh,nmK,Int.reduceBEq,aOi,e2];simp only[aOO,aOV,Int.reduceBEq,aOs,or_false,aOi,aOn];cases good a
   ·by_cases q:a=([115,116,97,116,105,99]:aE)
    ·rw[mg aRN,An q,sb,q];rfl
    ·rw[mg aRN,mg q,sb];simp [q]
   ·rw[An rfl,sb];rfl
  case inr.inr.inr.inr.inr.inr.inr.inr.inr.inr.inr.inr.inl=>
   have:=amV (.mk 31 m t c) hs;simp only[ae.rq,ae.nz]at this;simp only[Int.reduceEq,aOn,sb,Int.reduceBEq,aOi,aOw,this];rfl
  all_goals
   simp only[Int.reduceEq,aOn,aOw,tc,sb,TR,tN,wh,nmK,Int.reduceBEq,aOi,or_false,false_or,or_true,true_or];try simp only[aOO,aOV,Int.reduceBEq,aOs,aPl,aPa,or_false,aOi,aOn,aOw]
   try (cases good t<;>rfl)
 ·simp only[kds,aOz,aQu,or_false,not_or]at h;obtain⟨_,_,_,_,_,_,_,_,_,_,_,_,_,_,_,_,_,_,_,_,_,_,_⟩:=h;simp only[*,aOn,sb,tN,wh,nmK,aOO,aOV,an,aOZ,aOm,aOi,or_self,or_false,ne_eq,not_false_eq_true,aQp]
set_option maxRecDepth 100000
def HU (b:Bool):Unit ⊕ Bool:=bif b then .inl ()else .inr false
def ob2 (b:Bool):Unit ⊕ (Unit ⊕ Bool):=bif b then .inl ()else .inr (.inr false)
mutual
def uc:ae->Bool | .mk k _ _ a=>if k=7/\a.length=2 then auB a else k==4||k==8
def auB:List ae->Bool | []=>false | x::_=>uc x
end
section
variable (E S:ae->Bool)
def bl (x:ae):Bool:=x.ah==48&&S x
def prK (x:ae):Bool:=x.ah==6&&(x.aF==0&&(x.ak==([]:aE)&&(decide (1<=(x.af.length:Int)/\(x.af.length:Int)<=2)&&x.af.all E)))
def P2 (a:Bool):Bool->List ae->Bool
 | _,[]=>true
 | b,x::r=>((x.ah==25&&a)||(x.ah==24&&!b))&&(decide (0<=x.aF/\x.aF<=1)&&(good x.ak&&((x.af.length:Int)==0&&P2 a (b||x.ah==25) r)))
def fU (a:Bool) (b:List ae):Bool:=match b.getLast? with
 | none=>false
 | some x=>P2 a false b.dropLast&&bl S x
def gE (k:Int) (d:List ae):Bool:=
 if[1,2,3,4].contains k then(d.length:Int)==0
 else if k=5 then d.all (prK E)
 else if[8,9].contains k then(match d with | [a]=>E a | _=>false)
 else if[7,10,11,12,13].contains k then(match d with | [a,b]=>E a&&E b | _=>false)
 else if k=14 then(match d with | [a,b,c]=>E a&&(E b&&E c) | _=>false)
 else if[15,16].contains k then(match d with | [a,b]=>uc a&&(E a&&E b) | _=>false)
 else if k=17 then(match d with | [a]=>a.ah==4&&E a | _=>false)
 else if[18,21,22].contains k then d.all E
 else if[19,20].contains k then(match d with | []=>false | a::r=>E a&&r.all E)
 else if k=23 then fU S true d else false
def fE (n:ae):Bool:=tN n.ah n.aF&&(wh n.ah n.ak&&gE E S n.ah n.af)
def cat (x:ae):Bool:=x.ah==44&&(x.aF==0&&(good x.ak&&(match x.af with | [a,b]=>a.ah==4&&(E a&&bl S b) | _=>false)))
def fin (x:ae):Bool:=x.ah==45&&(x.aF==0&&(x.ak==([]:aE)&&(match x.af with | [a]=>bl S a | _=>false)))
def gS (k:Int) (e:List ae):Bool:=
 if[31,37,38,40,47].contains k then(e.length:Int)==0
 else if[32,33,42].contains k then(match e with | [a]=>E a | _=>false)
 else if k=39 then(match e with | []=>true | [a]=>E a | _=>false)
 else if k=41 then(match e with | [a]=>uc a&&E a | _=>false)
 else if k=34 then(match e with | [a,b]=>E a&&bl S b | [a,b,c]=>E a&&(bl S b&&bl S c) | _=>false)
 else if k=35 then(match e with | [a,b]=>E a&&bl S b | _=>false)
 else if k=36 then(match e with | [a,b,c]=>E a&&(E b&&(b.ah==4&&bl S c)) | [a,b,c,d]=>E a&&(E b&&(E c&&(b.ah==4&&(c.ah==4&&bl S d)))) | _=>false)
 else if k=46 then(match e with | [a]=>E a | [a,b]=>E a&&(E b&&a.ah==4) | _=>false)
 else if k=48 then e.all S
 else if k=43 then(match e with | [a,b]=>bl S a&&(cat E S b||fin S b) | [a,b,c]=>bl S a&&(cat E S b&&fin S c) | _=>false)else false
def fS (n:ae):Bool:=tN n.ah n.aF&&(wh n.ah n.ak&&gS E S n.ah n.af)
end
theorem fZ {a:ae} {r:List ae}:idx (a::r) 0=some a:=by unfold idx;rw[An ⟨by omega,by simp⟩];rfl
theorem te {a b:ae} {r:List ae}:idx (a::b::r) 1=some b:=by unfold idx;rw[An ⟨by omega,by simp;omega⟩];rfl
theorem E1 {a b c:ae} {r:List ae}:idx (a::b::c::r) 2=some c:=by unfold idx;rw[An ⟨by omega,by simp;omega⟩];rfl
theorem auC {a b c d:ae} {r:List ae}:idx (a::b::c::d::r) 3=some d:=by unfold idx;rw[An ⟨by omega,by simp;omega⟩];rfl
section
variable {E S:ae->Bool}
theorem TU (l:List ae) (h:∀x∈l,bG x=some (E x)) (a:l.length<4611686018427387904):∀f i:Nat,l.length<=i+f->lV l (i:Int)=some (HU ((l.drop i).all E))
 | f,i,hf=>by
  rw[lV];by_cases hc:i<l.length
  ·obtain⟨g,rfl⟩:∃g,f=g+1:=⟨f - 1,by omega⟩;rw[An aRK,dP hc,sb,h _ (aOD hc),sb,bz aRK,TU l h a g (i+1) aRK,aOq hc,aOv];cases E l[i]<;>rfl
  ·rw[mg aRK,aOk aRK];rfl
theorem AZ (l:List ae) (h:∀x∈l,bG x=some (E x)) (a:l.length<4611686018427387904):gw l 0=some (l.all E):=by
 have:=TU l h a l.length 0 aRK;rw[show((0:Nat):Int)=0 from rfl,aOu]at this;rw[gw,this,sb];cases l.all E<;>rfl
theorem TV (n:ae) (h:∀x∈n.af,eE x=some (S x)) (a:n.af.length<4611686018427387904):∀f i:Nat,n.af.length<=i+f->ll n (i:Int)=some (HU ((n.af.drop i).all S))
 | f,i,hf=>by
  rw[ll];by_cases hc:i<n.af.length
  ·obtain⟨g,rfl⟩:∃g,f=g+1:=⟨f - 1,by omega⟩;rw[An aRK,dP hc,sb,h _ (aOD hc),sb,bz aRK,TV n h a g (i+1) aRK,aOq hc,aOv];cases S n.af[i]<;>rfl
  ·rw[mg aRK,aOk aRK];rfl
theorem TW (n:ae) (h:∀x∈n.af,eE x=some (S x)) (b:n.af.length<4611686018427387904):cu n=some (n.ah==48&&(n.aF==0&&(n.ak==([]:aE)&&n.af.all S))):=by
 have:=TV n h b n.af.length 0 aRK;rw[show((0:Nat):Int)=0 from rfl,aOu]at this;rw[cu,this,sb];by_cases h1:n.ah=48
 ·rw[An h1,h1];by_cases h2:n.aF=0
  ·rw[An h2,h2];by_cases a:n.ak=([]:aE)
   ·rw[An a,a];cases n.af.all S<;>rfl
   ·rw[mg a];simp [a]
  ·rw[mg h2];simp [h2]
 ·rw[mg h1];simp [h1]
theorem aId (n:ae) (h:n.ah=48):fS E S n=(n.aF==0&&(n.ak==([]:aE)&&n.af.all S)):=by
 unfold fS gS tN wh nmK;rw[h];rfl
theorem sbl (n:ae) (h:∀x∈n.af,eE x=some (S x)) (a:n.af.length<4611686018427387904) (b:S n=fS E S n):cu n=some (bl S n):=by
 rw[TW n h a,bl];by_cases h1:n.ah=48
 ·rw[b,aId n h1]
 ·rw[an.2 h1];rfl
theorem aav (n:ae) (h:∀x∈n.af,∀y∈x.af,bG y=some (E y)) (b:∀x∈n.af,x.af.length<4611686018427387904) (c:n.af.length<4611686018427387904):∀f i:Nat,n.af.length<=i+f->lW n (i:Int)=some (ob2 ((n.af.drop i).all (prK E)))
 | f,i,hf=>by
  rw[lW];by_cases hc:i<n.af.length
  ·obtain⟨g,rfl⟩:∃g,f=g+1:=⟨f - 1,by omega⟩;rw[An aRK,dP hc,sb,tc,sb,AZ _ (h _ (aOD hc)) (b _ (aOD hc)),sb,bz aRK,aav n h b c g (i+1) aRK,aOq hc,aOv];generalize n.af[i]=x;unfold prK;by_cases h1:x.ah=6
   ·by_cases h2:x.aF=0
    ·by_cases a:x.ak=([]:aE)
     ·rw[An h1,An h2,An a,h1,h2,a];cases decide (1<=(x.af.length:Int)/\(x.af.length:Int)<=2)
      ·rfl
      ·cases x.af.all E<;>rfl
     ·rw[An h1,An h2,mg a,an.2 a,aPC,aOP,aOP];rfl
    ·rw[An h1,mg h2,an.2 h2,aPC,aOP];rfl
   ·rw[mg h1,an.2 h1];rfl
  ·rw[mg aRK,aOk aRK];rfl
theorem M3 {l:List ae} {x:ae}:idx (l++[x]) (l.length:Int)=some x:=by
 rw[dP aRN];simp
theorem TX (a:Bool) (l:List ae) (z:ae) (d:l.length<4611686018427387904):∀(f i:Nat) (b:Bool),l.length<=i+f->gU (l++[z]) a b (i:Int)=some (HU (P2 a b (l.drop i)))
 | f,i,b,hf=>by
  rw[gU,lj (x:=(((l++[z]).length:Int)) - 1) (n:=l.length) aRN aRK];by_cases hc:i<l.length
  ·obtain⟨g,rfl⟩:∃g,f=g+1:=⟨f - 1,by omega⟩;have hd:(l++[z])[i]'aRT=l[i]:=aPN hc;have e:=λj=>TX a l z d g (i+1) j aRK;rw[An aRK,dP aRT,sb,hd,aOq hc];simp only[tc,sb,TR,bz (show i<9223372036854775807 by omega),e,P2];generalize l[i]=x
   have e0:(if(x.af.length:Int)>0 then(some (.inr false):Option (Unit ⊕ Bool))else some (HU (P2 a (b||x.ah==25) (l.drop (i+1)))))=some (HU ((x.af.length:Int)==0&&P2 a (b||x.ah==25) (l.drop (i+1)))):=by
    by_cases h:(x.af.length:Int)>0
    ·rw[An h,an.2 aRK];rfl
    ·rw[mg h,show(x.af.length:Int)=0 by omega];rfl
   by_cases h1:x.ah=25
   ·rw[An h1,sb,mg aRK,An h1];cases a
    ·rw[h1];rfl
    ·rw[h1]at e0;simp only[Int.reduceBEq,aPl,BEq.rfl]at e0;rw[h1];cases decide (0<=x.aF/\x.aF<=1)
     ·rfl
     ·cases good x.ak
      ·rfl
      ·simpa using e0
   ·rw[mg h1,sb];have c:(x.ah==25)=false:=an.2 h1;rw[c,aOs]at e0;rw[c,aOs,aPC,aOt];by_cases h2:x.ah=24
    ·rw[An h2,h2];cases b
     ·cases decide (0<=x.aF/\x.aF<=1)
      ·rfl
      ·cases good x.ak
       ·rfl
       ·simpa using e0
     ·rw[An rfl,mg aRL];rfl
    ·rw[mg h2,mg h1,an.2 h2];rfl
  ·rw[mg aRK,aOk aRK];rfl
theorem KQ (a:Bool) (b:List ae) (d:b.length<4611686018427387904) (e:∀x∈b,cu x=some (bl S x)):kz b a=some (fU S a b):=by
 rcases aQf b with rfl | ⟨l,z,rfl⟩
 ·rw[kz,gU];rfl
 ·rw[aPQ]at d e ⊢;have c:l.length<4611686018427387904:=by simp at d;omega
  have:=TX a l z c l.length 0 false aRK;rw[show((0:Nat):Int)=0 from rfl,aOu]at this;rw[kz,this,sb,lj (x:=(((l++[z]).length:Int)) - 1) (n:=l.length) aRN aRK,fU,List.getLast?_concat,aQi];show _=some (P2 a false l&&bl S z);cases P2 a false l
  ·rfl
  ·show(if(l.length:Int)>=0 then _ else _)=_;rw[An aRK,M3,sb,e z aRN,sb];rfl
end
end Go.Am
