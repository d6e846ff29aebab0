/- Texts of the proof, joined and shortened. -/
import Derived.Test.YtiigfbapjeefbaaGreatDoorPk4
import Derived.Test.YtiigfbapjeefbaaGreatDoorShelfB
import Derived.WalkKit
import Derived.BigCall
set_option linter.unusedVariables false
set_option linter.unusedSimpArgs false
namespace Go.Am
open Go Go.RowKit Go.Proofs
theorem ACall.ext {P:Program} {f:FuncId} {args:List PV} {r:PV} (yu:ans P f)
  (H:∀(w:World) (vs:Array Value) (S:Nat->Prop),P3 S w->(∀b,S b->b<w.heap.size)->vs.size=args.length->(∀(j:Nat) (pv:PV),args[j]? =some pv->∃v,vs[j]? =some v/\ba S w pv v)->
   Calls P f vs w (λe w'=>∃v,e=.returned v/\(∀μ h S w,cj μ h S w r v)/\Below w.heap.size w w'))
  (hp:args.all yv=true) (h:List al):ACall P f args h (λres h'=>res=r/\h'=h):=by
 refine ⟨yu,λw vs μ S hH hM jO ha=>(H w vs S hM.known hM.slt jO (λj pv hj=>?_)).mono ?_⟩
 ·obtain ⟨v,h1,h2⟩:=ha j pv hj
  have h3:=aKd.1 hp pv (aKl hj)
  cases pv<;>first | exact ⟨v,h1,h2⟩ | (simp [yv] at h3)
 ·rintro e w' ⟨v,rfl,hv,hb⟩
  have ag:c7 w w':=⟨hb.block,hb.size,hb.os,hb.tape,hb.output⟩
  exact ⟨v,r,h,μ,S,rfl,⟨rfl,rfl⟩,hv _ _ _ _,hH.agree ag hM,hM.agree ag,Fr.sf ag⟩
theorem P4 {vs:Array Value} {a b:Value} (hs:vs.size=2) (h0:vs[0]? =some a) (h1:vs[1]? =some b):vs=#[a,b]:=by
 obtain ⟨l⟩:=vs
 rcases l with _ | ⟨x,_ | ⟨y,_ | ⟨z,l⟩⟩⟩<;>simp at hs
 simp at h0 h1;subst h0;subst h1;rfl
theorem ant {vs:Array Value} {a b c:Value} (hs:vs.size=3) (h0:vs[0]? =some a) (h1:vs[1]? =some b) (h2:vs[2]? =some c):vs=#[a,b,c]:=by
 obtain ⟨l⟩:=vs
 rcases l with _ | ⟨x,_ | ⟨y,_ | ⟨z,_ | ⟨u,l⟩⟩⟩⟩<;>simp at hs
 simp at h0 h1 h2;subst h0;subst h1;subst h2;rfl
theorem MS {P:Program} {w:World} {n:String} {g:Nat} {cs:Array Value} {t:TypeId} {z:Nat×Nat} (hg:P.globalNamed n=some g) (h:w.heap[g]? =some (.cells cs t z)):w.var? P n=some cs:=by
 unfold World.var?
 rw [hg]
 simp [h]
theorem ahC:Tryz.prog.globalNamed "internal/strconv.uint64pow10" =some 1:=by kernel_rfl
theorem ahD:Tryz.prog.globalNamed "strconv.ErrSyntax" =some 2:=by kernel_rfl
theorem ahE:Tryz.prog.globalNamed "strconv.ErrRange" =some 3:=by kernel_rfl
theorem Uh:Lib.pow10Tab=Jj:=by decide
theorem acH {S:Nat->Prop} {w:World} (h:P3 S w):Lib.TabIs Tryz.prog w "internal/strconv.uint64pow10" .u64 Lib.pow10Tab:=by
 obtain ⟨_,t,z,hh⟩:=h.1 (1,_) (by simp [Hb];rfl)
 unfold Lib.TabIs
 rw [MS ahC hh,Uh]
theorem acI {S:Nat->Prop} {w:World} (h:P3 S w):∃tp p,w.var? Tryz.prog "strconv.ErrSyntax" =some #[.iface tp p]:=by
 obtain ⟨_,tp,p,t,z,hh⟩:=h.2.1 2 (by simp [yw])
 exact ⟨tp,p,MS ahD hh⟩
theorem acJ {S:Nat->Prop} {w:World} (h:P3 S w):∃tp p,w.var? Tryz.prog "strconv.ErrRange" =some #[.iface tp p]:=by
 obtain ⟨_,tp,p,t,z,hh⟩:=h.2.1 3 (by simp [yw])
 exact ⟨tp,p,MS ahE hh⟩
theorem Hc {S:Nat->Prop} {w:World} (h:P3 S w):∃m,w.cell? ⟨0,0,none⟩=some (.int .i64 m):=by
 obtain ⟨_,m,t,z,hh⟩:=h.2.2 0 (by simp [Hd])
 exact ⟨m,by simp [World.cell?,hh]⟩
theorem MT (w:World) (k:Nat) (os:Array Obj):Below w.heap.size w (Sort.grow (w.drewN k) os):=by
 refine ⟨rfl,rfl,rfl,?_,λi hi=>?_⟩
 ·show w.heap.size<=(w.heap++os).size
  simp
 ·show (w.heap++os)[i]? =w.heap[i]?
  rw [aKU hi]
theorem Ui (s sub:List UInt8) (hs:s.length<4294967281) (h:List al):ACall Tryz.prog 168 [.str s,.str sub] h (λres h'=>res=.int .i64 (Lib.index s sub)/\h'=h):=by
 refine ACall.ext ⟨_,_,Tryz.func168,rfl,by kernel_rfl⟩ (λw vs S ha hS jO hj=>?_) rfl h
 obtain ⟨v,hv,hp⟩:=hj 0 _ rfl
 cases hp
 obtain ⟨v',hv',yx⟩:=hj 1 _ rfl
 cases yx
 obtain rfl:=P4 jO hv hv'
 obtain ⟨m,hm⟩:=Hc ha
 refine (Tryz.strings_Index ⟨⟨s⟩⟩ ⟨⟨sub⟩⟩ m w hs hm).mono ?_
 rintro e w' ⟨rfl,rfl⟩
 exact ⟨_,rfl,λ_ _ _ _=>.int _ _,Below.refl _ _⟩
theorem He (s p:List UInt8) (h:List al):ACall Tryz.prog 170 [.str s,.str p] h (λres h'=>res=.bool (Lib.hasPrefix s p)/\h'=h):=by
 refine ACall.ext ⟨_,_,Tryz.func170,rfl,by kernel_rfl⟩ (λw vs S ha hS jO hj=>?_) rfl h
 obtain ⟨v,hv,hp⟩:=hj 0 _ rfl
 cases hp
 obtain ⟨v',hv',yx⟩:=hj 1 _ rfl
 cases yx
 obtain rfl:=P4 jO hv hv'
 refine (Tryz.strings_HasPrefix ⟨⟨s⟩⟩ ⟨⟨p⟩⟩ w).mono ?_
 rintro e w' ⟨rfl,rfl⟩
 exact ⟨_,rfl,λ_ _ _ _=>.bool _,Below.refl _ _⟩
def pw (s:List UInt8) (lo hi:Int):Option Int:=
 if 20<s.length then none else match Lib.atoiAll s with
  | .ok n=>if Lib.itoa n=s/\lo<=n/\n<=hi then some n else none
  | _=>none
def pwR (o:Option Int):PV:=match o with | some n=>.fM [.int .i64 n,.bool true] | none=>.fM [.int .i64 0,.bool false]
def pwV (o:Option Int):Value:=match o with | some n=>.tuple #[.int .i64 n,.bool true] | none=>.tuple #[.int .i64 0,.bool false]
set_option maxRecDepth 100000 in
theorem yy (s:ByteArray) (lo hi:Int) (w:World) (S:Nat->Prop) (ha:P3 S w) (hS:∀b,S b->b<w.heap.size):
  Calls Tryz.prog 207 #[.string s,.int .i64 lo,.int .i64 hi] w λe w'=>e=.returned (pwV (pw s.data.toList lo hi))/\Below w.heap.size w w':=by
 have hlen:s.data.toList.length=s.size:=rfl
 by_cases hl:20<s.size
 ·have e0:pw s.data.toList lo hi=none:=by unfold pw;rw [if_pos aNc]
  rw [e0]
  go_enter Tryz.func207,Tryz.ntmps207
  go_wp2
  go_ret2
  exact ⟨rfl,Below.refl _ _⟩
 ·cases h:Lib.atoiAll s.data.toList with
  | range=>
   have e0:pw s.data.toList lo hi=none:=by unfold pw;rw [if_neg aNc,h]
   rw [e0]
   obtain ⟨tp,p,hv⟩:=acJ ha
   go_enter Tryz.func207,Tryz.ntmps207
   go_wp2_with (go_at_call 221;refine (Tryz.strconv_Atoi_range_var s aNc h tp p _ hv).mono ?_;rintro e w1 ⟨N,rfl,-,-,hb⟩)
   go_ret2
   exact ⟨rfl,hb⟩
  | ok n=>
   obtain ⟨b0,b1⟩:=Lib.atoiAll_bounds h
   have key:∀(r:Value) (w1 w2:World),((w1=w\/∃t,w1=Lib.bytesWorld w 5 t)->Below w.heap.size w w1):=λr w1 w2 hb=>by
    rcases hb with rfl | ⟨t,rfl⟩
    ·exact Below.refl _ _
    ·exact Lib.bytesWorld_below _ _ _
   go_enter Tryz.func207,Tryz.ntmps207
   go_wp2_with (go_at_call 221;refine (Tryz.strconv_Atoi_ok s aNc n h _).mono ?_;rintro e w1 ⟨rfl,hb⟩)
   go_wp2_with (go_at_call 201;refine (Tryz.strconv_Itoa n b0 b1 _ (acH (ha.dO (λb sd=>(key undef _ w hb).block b (hS b sd)) (λ_ hb=>hb)))).mono ?_;rintro e w2 ⟨rfl,k,os,rfl⟩)
   all_goals go_ret2
   all_goals refine ⟨?_,(key undef _ w hb).trans ((MT _ _ _).mono (key undef _ w hb).size)⟩
   all_goals
    have ht:s.toList=s.data.toList:=ByteArray.toList_eq s
    have pe:pw s.data.toList lo hi=if Lib.itoa n=s.data.toList/\lo<=n/\n<=hi then some n else none:=by
     unfold pw;rw [if_neg aNc,h]
    rw [pe,<-ht]
    clear ht pe h
    split
    ·rename_i hc
     first
      | rfl
      | (exfalso;obtain ⟨c1,c2,c3⟩:=hc;first | omega | contradiction)
    ·rename_i hc
     first
      | rfl
      | (exfalso;apply hc;refine ⟨?_,?_,?_⟩<;>first | assumption | omega)
  | _=>
   have e0:pw s.data.toList lo hi=none:=by unfold pw;rw [if_neg aNc,h]
   rw [e0]
   obtain ⟨tp,p,hv⟩:=acI ha
   go_enter Tryz.func207,Tryz.ntmps207
   go_wp2_with (go_at_call 221;refine (Tryz.strconv_Atoi_syntax_var s aNc h tp p _ hv).mono ?_;rintro e w1 ⟨N,rfl,-,-,hb⟩)
   go_ret2
   exact ⟨rfl,hb⟩
theorem B9 (s:List UInt8) (lo hi:Int) (h:List al):ACall Tryz.prog 207 [.str s,.int .i64 lo,.int .i64 hi] h (λres h'=>res=pwR (pw s lo hi)/\h'=h):=by
 refine ACall.ext ⟨_,_,Tryz.func207,rfl,by kernel_rfl⟩ (λw vs S ha hS jO hj=>?_) rfl h
 obtain ⟨v0,RO,hp0⟩:=hj 0 _ rfl
 cases hp0
 obtain ⟨v1,hv1,FR⟩:=hj 1 _ rfl
 cases FR
 obtain ⟨v2,tu,My⟩:=hj 2 _ rfl
 cases My
 obtain rfl:=ant jO RO hv1 tu
 refine (yy ⟨⟨s⟩⟩ lo hi w S ha hS).mono ?_
 rintro e w' ⟨rfl,hb⟩
 refine ⟨_,rfl,λμ h S w=>?_,hb⟩
 show cj μ h S w (pwR (pw s lo hi)) (pwV (pw s lo hi))
 cases pw s lo hi with
 | some n=>
  refine ⟨_,rfl,rfl,λj pv hj=>?_⟩
  match j with
  | 0=>cases hj;exact ⟨_,rfl,.int _ _⟩
  | 1=>cases hj;exact ⟨_,rfl,.bool _⟩
  | j+2=>simp at hj
 | none=>
  refine ⟨_,rfl,rfl,λj pv hj=>?_⟩
  match j with
  | 0=>cases hj;exact ⟨_,rfl,.int _ _⟩
  | 1=>cases hj;exact ⟨_,rfl,.bool _⟩
  | j+2=>simp at hj
def m98 (s:aD) (lo hi:Int):Option (Int×Bool):=match pw s lo hi with | some n=>some (n,true) | none=>some (0,false)
theorem aCV {s:aD} {lo hi:Int} {r:Int×Bool} (h:m98 s lo hi=some r):ACall Tryz.prog 207 [.str s,.int .i64 lo,.int .i64 hi] [] (λres h=>res=.fM [.int .i64 r.1,.bool r.2]/\h=[]):=by
 refine (B9 s lo hi []).mono ?_
 rintro _ _ ⟨rfl,rfl⟩
 unfold m98 at h
 split at h
 ·rename_i n e;rw [e];cases h;exact ⟨rfl,rfl⟩
 ·rename_i e;rw [e];cases h;exact ⟨rfl,rfl⟩
def m66 (s p:aD):Option Bool:=some (Lib.hasPrefix s p)
theorem Uj {s p:aD} {r:Bool} (h:m66 s p=some r):ACall Tryz.prog 170 [.str s,.str p] [] (λres h=>res=.bool r/\h=[]):=by
 cases h
 exact He s p []
def m64 (s p:aD):Option Int:=if s.length<4294967281 then some (Lib.index s p) else none
theorem aCW {s p:aD} {r:Int} (h:m64 s p=some r):ACall Tryz.prog 168 [.str s,.str p] [] (λres h=>res=.int .i64 r/\h=[]):=by
 obtain ⟨h0,rfl⟩:=di h
 exact Ui s p h0 []
theorem Jk (s sub:List UInt8) (hs:s.length<4294967281) (h:List al):ACall Tryz.prog 136 [.str s,.str sub] h (λres h'=>res=.bool (decide (0<=Lib.index s sub))/\h'=h):=by
 refine ACall.ext ⟨_,_,Tryz.func136,rfl,by kernel_rfl⟩ (λw vs S ha hS jO hj=>?_) rfl h
 obtain ⟨v,hv,hp⟩:=hj 0 _ rfl
 cases hp
 obtain ⟨v',hv',yx⟩:=hj 1 _ rfl
 cases yx
 obtain rfl:=P4 jO hv hv'
 obtain ⟨m,hm⟩:=Hc ha
 refine (Tryz.strings_Contains ⟨⟨s⟩⟩ ⟨⟨sub⟩⟩ m w hs hm).mono ?_
 rintro e w' ⟨rfl,rfl⟩
 exact ⟨_,rfl,λ_ _ _ _=>.bool _,Below.refl _ _⟩
theorem ahF (s sep:List UInt8) (hs:s.length<4294967281) (h:List al):ACall Tryz.prog 198 [.str s,.str sep] h (λres h'=>res=.fM [.str (Lib.cut s sep).1,.str (Lib.cut s sep).2.1,.bool (Lib.cut s sep).2.2]/\h'=h):=by
 refine ACall.ext ⟨_,_,Tryz.func198,rfl,by kernel_rfl⟩ (λw vs S ha hS jO hj=>?_) rfl h
 obtain ⟨v,hv,hp⟩:=hj 0 _ rfl
 cases hp
 obtain ⟨v',hv',yx⟩:=hj 1 _ rfl
 cases yx
 obtain rfl:=P4 jO hv hv'
 obtain ⟨m,hm⟩:=Hc ha
 refine (Tryz.strings_Cut ⟨⟨s⟩⟩ ⟨⟨sep⟩⟩ m w hs hm).mono ?_
 rintro e w' ⟨rfl,n,rfl⟩
 refine ⟨_,rfl,λμ h S w'=>⟨_,rfl,rfl,λj pv hj=>?_⟩,?_⟩
 ·match j with
  | 0=>cases hj;exact ⟨_,rfl,.str _⟩
  | 1=>cases hj;exact ⟨_,rfl,.str _⟩
  | 2=>cases hj;exact ⟨_,rfl,.bool _⟩
  | j+3=>simp at hj
 ·exact ⟨rfl,rfl,rfl,As _,λ_ _=>rfl⟩
def mO (s p:aD):Option Bool:=if s.length<4294967281 then some (decide (0<=Lib.index s p)) else none
theorem xr {s p:aD} {r:Bool} (h:mO s p=some r):ACall Tryz.prog 136 [.str s,.str p] [] (λres h=>res=.bool r/\h=[]):=by
 obtain ⟨h0,rfl⟩:=di h
 exact Jk s p h0 []
def tv (s p:aD):Option (aD×aD×Bool):=if s.length<4294967281 then some (Lib.cut s p) else none
theorem EG {s p:aD} {r:aD×aD×Bool} (h:tv s p=some r):ACall Tryz.prog 198 [.str s,.str p] [] (λres h=>res=.fM [.str r.1,.str r.2.1,.bool r.2.2]/\h=[]):=by
 obtain ⟨h0,rfl⟩:=di h
 exact ahF s p h0 []
set_option maxRecDepth 100000
def mP (a0:aD):Option (Bool):=
 tv a0 [58,58]>>=λ(v1,v2,v3)=>
 (if v3=true then
 (if v1=([115,116,97,116,105,99]:aD) then
 bC v2>>=λv7=>
 some v7
 else
 bC v1>>=λv9=>
 (if v9=true then
 bC v2>>=λv12=>
 some v12
 else
 some false))
 else
 some false)
theorem EH {a0:aD} {r:Bool} (h:mP a0=some r):sg3 144 a0 r:=by
 refine ep Tryz.func144 ?_
 unfold mP at h
 refine .d (.d ?_)
 obtain ⟨⟨v1,v2,v3⟩,RP,h⟩:=bd h
 refine b8 (EG RP) (.d (sV h (λAK h=>?_) (λAK h=>?_)))
 refine .t (.t (sE h (λBR h=>?_) (λBR h=>?_)))
 exact .t (.t (.t (.t (.t (.t (bk h λv7 Uk h=>(b8 (cH Uk) (.t (eB h)))))))))
 refine .f (bk h λv9 ahG h=>(b8 (cH ahG) (.t (.f (.t (sV h (λqR h=>?_) (λqR h=>?_)))))))
 exact .t (bk h λv12 EI h=>(b8 (cH EI) (.t (eB h))))
 exact .f (.f (eB h))
 exact .f (.f (.f (.f (.f (.f (.f (eB h)))))))
def iU (a1:Bool) (zF:List ae) (MU:Bool) (MV:Int):Option iD:=
 (if MV<(zF.length:Int) then
 idx zF MV>>=λHf=>
 ((
 (if Hf.ai=25 then
 (if a1=true then
 some (.inl true)
 else
 (if Hf.ai=24 then
 (if MU=true then
 some (.inr (.inr false))
 else
 some (.inl MU))
 else
 some (.inr (.inr false))))
 else
 (if Hf.ai=24 then
 (if MU=true then
 some (.inr (.inr false))
 else
 some (.inl MU))
 else
 some (.inr (.inr false))))
 :Option ((Bool) ⊕ iD))>>=λahH=>match ahH with
 | .inr r=>some r
 | .inl Ul=>
 Mz Hf.aE 0 1>>=λv222=>
 (if v222=true then
 bC Hf.aq>>=λanu=>
 (if anu=true then
 (if (Hf.af.length:Int)>0 then
 some (.inr false)
 else
 iU a1 zF Ul (bm (MV+1)))
 else
 some (.inr false))
 else
 some (.inr false))
 )
 else
 some (.inl ()))
partial_fixpoint
mutual
def cF (a0:ae):Option (Bool):=
 ((
 (if a0.ai=1 then
 Mz a0.aE 0 1000000000>>=λv5=>
 (if v5=true then
 (if a0.aq=([]:aD) then
 some (.inr ((a0.af.length:Int)==0))
 else
 some (.inr false))
 else
 some (.inr false))
 else
 (if a0.ai=2 then
 (if a0.aE=0 then
 (if (a0.aq.length:Int)<=400 then
 some (.inr ((a0.af.length:Int)==0))
 else
 some (.inr false))
 else
 some (.inr false))
 else
 (if a0.ai=3 then
 Mz a0.aE 0 2>>=λml=>
 (if ml=true then
 (if a0.aq=([]:aD) then
 some (.inr ((a0.af.length:Int)==0))
 else
 some (.inr false))
 else
 some (.inr false))
 else
 (if a0.ai=4 then
 hJ a0>>=λRQ=>
 some (.inr RQ)
 else
 (if a0.ai=5 then
 ((
 lP a0 0
 :Option uG)>>=λo21=>match o21 with
 | .inr r=>some r
 | .inl _=>
 (if a0.aE=0 then
 some (.inr (a0.aq==([]:aD)))
 else
 some (.inr false))
 )
 else
 (
 (if a0.ai=7 then
 some (a0.ai==7)
 else
 (if a0.ai=11 then
 some (a0.ai==11)
 else
 (if a0.ai=12 then
 some (a0.ai==12)
 else
 some (a0.ai==13))))
 :Option (Bool))>>=λb52=>
 (if b52=true then
 (if a0.aE=0 then
 (if a0.aq=([]:aD) then
 (if (a0.af.length:Int)=2 then
 cP a0.af>>=λJl=>
 some (.inr Jl)
 else
 some (.inr false))
 else
 some (.inr false))
 else
 some (.inr false))
 else
 (if a0.ai=8 then
 (if a0.aE=0 then
 bC a0.aq>>=λEB=>
 (if EB=true then
 (if (a0.af.length:Int)=1 then
 cP a0.af>>=λUm=>
 some (.inr Um)
 else
 some (.inr false))
 else
 some (.inr false))
 else
 some (.inr false))
 else
 (if a0.ai=9 then
 (if a0.aE=1 then
 (if a0.aq=([]:aD) then
 (if (a0.af.length:Int)=1 then
 cP a0.af>>=λv77=>
 some (.inr v77)
 else
 some (.inr false))
 else
 some (.inr false))
 else
 (if a0.aE=2 then
 (if a0.aq=([]:aD) then
 (if (a0.af.length:Int)=1 then
 cP a0.af>>=λUn=>
 some (.inr Un)
 else
 some (.inr false))
 else
 some (.inr false))
 else
 some (.inr false)))
 else
 (if a0.ai=10 then
 Mz a0.aE 1 15>>=λv85=>
 (if v85=true then
 (if a0.aq=([]:aD) then
 (if (a0.af.length:Int)=2 then
 cP a0.af>>=λv90=>
 some (.inr v90)
 else
 some (.inr false))
 else
 some (.inr false))
 else
 some (.inr false))
 else
 (if a0.ai=14 then
 (if a0.aE=0 then
 (if a0.aq=([]:aD) then
 (if (a0.af.length:Int)=3 then
 cP a0.af>>=λP6=>
 some (.inr P6)
 else
 some (.inr false))
 else
 some (.inr false))
 else
 some (.inr false))
 else
 (
 (if a0.ai=15 then
 some (a0.ai==15)
 else
 some (a0.ai==16))
 :Option (Bool))>>=λb98=>
 (if b98=true then
 (if a0.aE=0 then
 (if a0.aq=([]:aD) then
 (if (a0.af.length:Int)=2 then
 cP a0.af>>=λv107=>
 (if v107=true then
 idx a0.af 0>>=λahI=>
 fg ahI>>=λxt=>
 some (.inr xt)
 else
 some (.inr false))
 else
 some (.inr false))
 else
 some (.inr false))
 else
 some (.inr false))
 else
 (if a0.ai=17 then
 (if a0.aE=0 then
 bC a0.aq>>=λanv=>
 (if anv=true then
 (if (a0.af.length:Int)=1 then
 idx a0.af 0>>=λahJ=>
 hJ ahJ>>=λUo=>
 some (.inr Uo)
 else
 some (.inr false))
 else
 some (.inr false))
 else
 some (.inr false))
 else
 (if a0.ai=18 then
 (if a0.aE=0 then
 bC a0.aq>>=λJm=>
 (if Jm=true then
 cP a0.af>>=λUp=>
 some (.inr Up)
 else
 some (.inr false))
 else
 some (.inr false))
 else
 (if a0.ai=19 then
 (if a0.aE=0 then
 (if a0.aq=([]:aD) then
 (if (a0.af.length:Int)>=1 then
 cP a0.af>>=λUq=>
 some (.inr Uq)
 else
 some (.inr false))
 else
 some (.inr false))
 else
 some (.inr false))
 else
 (if a0.ai=20 then
 (if a0.aE=0 then
 bC a0.aq>>=λv139=>
 (if v139=true then
 (if (a0.af.length:Int)>=1 then
 cP a0.af>>=λv143=>
 some (.inr v143)
 else
 some (.inr false))
 else
 some (.inr false))
 else
 some (.inr false))
 else
 (if a0.ai=21 then
 (if a0.aE=0 then
 mP a0.aq>>=λMW=>
 (if MW=true then
 cP a0.af>>=λUr=>
 some (.inr Ur)
 else
 some (.inr false))
 else
 some (.inr false))
 else
 (if a0.ai=22 then
 (if a0.aE=0 then
 (if a0.aq=([115,116,97,116,105,99]:aD) then
 cP a0.af>>=λUs=>
 some (.inr Us)
 else
 bC a0.aq>>=λv157=>
 (if v157=true then
 cP a0.af>>=λv160=>
 some (.inr v160)
 else
 some (.inr false)))
 else
 some (.inr false))
 else
 (if a0.ai=23 then
 (if a0.aE=0 then
 (if a0.aq=([]:aD) then
 gm a0.af true>>=λJn=>
 some (.inr Jn)
 else
 some (.inr false))
 else
 some (.inr false))
 else
 some (.inl ())))))))))))))))))))
 :Option iD)>>=λo1=>match o1 with
 | .inr r=>some r
 | .inl _=>
 some false
 )
partial_fixpoint
def cP (a0:List ae):Option (Bool):=
 ((
 j7 a0 0
 :Option iD)>>=λacK=>match acK with
 | .inr r=>some r
 | .inl _=>
 some true
 )
partial_fixpoint
def gm (a0:List ae) (a1:Bool):Option (Bool):=
 (if (bm ((a0.length:Int) - 1))<0 then
 some false
 else
 idx a0 (bm ((a0.length:Int) - 1))>>=λahK=>
 (if ahK.ai=48 then
 idx a0 (bm ((a0.length:Int) - 1))>>=λahL=>
 c8 ahL>>=λRR=>
 (if RR=true then
 ((
 T2 a0 (bm ((a0.length:Int) - 1))>>=λzF=>
 iU a1 zF false 0
 :Option iD)>>=λUt=>match Ut with
 | .inr r=>some r
 | .inl _=>
 some true
 )
 else
 some false)
 else
 some false))
partial_fixpoint
def c8 (a0:ae):Option (Bool):=
 (if a0.aE=0 then
 ((
 (if a0.ai=31 then
 (if a0.aq=([]:aD) then
 some (.inr false)
 else
 mO a0.aq [60,63]>>=λUu=>
 (if Uu=true then
 some (.inr false)
 else
 some (.inr ((a0.af.length:Int)==0))))
 else
 (
 (if a0.ai=32 then
 some (a0.ai==32)
 else
 (if a0.ai=33 then
 some (a0.ai==33)
 else
 some (a0.ai==42)))
 :Option (Bool))>>=λUv=>
 (if Uv=true then
 (if a0.aq=([]:aD) then
 (if (a0.af.length:Int)=1 then
 idx a0.af 0>>=λahM=>
 cF ahM>>=λanw=>
 some (.inr anw)
 else
 some (.inr false))
 else
 some (.inr false))
 else
 (if a0.ai=34 then
 (if a0.aq=([]:aD) then
 Mz (a0.af.length:Int) 2 3>>=λUw=>
 (if Uw=true then
 idx a0.af 0>>=λahN=>
 cF ahN>>=λanx=>
 (if anx=true then
 qc a0.af 1>>=λqT=>
 fO qT>>=λanz=>
 some (.inr anz)
 else
 some (.inr false))
 else
 some (.inr false))
 else
 some (.inr false))
 else
 (if a0.ai=35 then
 (if a0.aq=([]:aD) then
 (if (a0.af.length:Int)=2 then
 idx a0.af 0>>=λahO=>
 cF ahO>>=λanA=>
 (if anA=true then
 qc a0.af 1>>=λacL=>
 fO acL>>=λanB=>
 some (.inr anB)
 else
 some (.inr false))
 else
 some (.inr false))
 else
 some (.inr false))
 else
 (if a0.ai=36 then
 (if a0.aq=([]:aD) then
 Mz (a0.af.length:Int) 3 4>>=λanC=>
 (if anC=true then
 idx a0.af 0>>=λahP=>
 cF ahP>>=λanD=>
 (if anD=true then
 idx a0.af 1>>=λahQ=>
 hJ ahQ>>=λanE=>
 (if anE=true then
 (if (a0.af.length:Int)=3 then
 qc a0.af (bm ((a0.af.length:Int) - 1))>>=λacM=>
 fO acM>>=λHg=>
 some (.inr Hg)
 else
 idx a0.af 2>>=λahR=>
 hJ ahR>>=λHh=>
 (if Hh=true then
 qc a0.af (bm ((a0.af.length:Int) - 1))>>=λacN=>
 fO acN>>=λUx=>
 some (.inr Ux)
 else
 some (.inr false)))
 else
 some (.inr false))
 else
 some (.inr false))
 else
 some (.inr false))
 else
 some (.inr false))
 else
 (
 (if a0.ai=37 then
 some (a0.ai==37)
 else
 some (a0.ai==38))
 :Option (Bool))>>=λUy=>
 (if Uy=true then
 (if a0.aq=([]:aD) then
 some (.inr ((a0.af.length:Int)==0))
 else
 some (.inr false))
 else
 (if a0.ai=39 then
 (if a0.aq=([]:aD) then
 (if (a0.af.length:Int)<=1 then
 cP a0.af>>=λMX=>
 some (.inr MX)
 else
 some (.inr false))
 else
 some (.inr false))
 else
 (if a0.ai=40 then
 bC a0.aq>>=λanF=>
 (if anF=true then
 some (.inr ((a0.af.length:Int)==0))
 else
 some (.inr false))
 else
 (if a0.ai=41 then
 (if a0.aq=([]:aD) then
 (if (a0.af.length:Int)=1 then
 idx a0.af 0>>=λahS=>
 tz ahS>>=λanG=>
 some (.inr anG)
 else
 some (.inr false))
 else
 some (.inr false))
 else
 (if a0.ai=46 then
 (if a0.aq=([]:aD) then
 (if (a0.af.length:Int)=1 then
 idx a0.af (bm ((a0.af.length:Int) - 1))>>=λahT=>
 cF ahT>>=λanH=>
 some (.inr anH)
 else
 (if (a0.af.length:Int)=2 then
 idx a0.af 0>>=λoH=>
 hJ oH>>=λHi=>
 (if Hi=true then
 idx a0.af (bm ((a0.af.length:Int) - 1))>>=λahU=>
 cF ahU>>=λanI=>
 some (.inr anI)
 else
 some (.inr false))
 else
 some (.inr false)))
 else
 some (.inr false))
 else
 (if a0.ai=47 then
 (if (a0.aq.length:Int)<=400 then
 some (.inr ((a0.af.length:Int)==0))
 else
 some (.inr false))
 else
 (if a0.ai=48 then
 ((
 lQ a0 0
 :Option uG)>>=λacO=>match acO with
 | .inr r=>some r
 | .inl _=>
 some (.inr (a0.aq==([]:aD)))
 )
 else
 (if a0.ai=43 then
 (if a0.aq=([]:aD) then
 wx a0.af>>=λanJ=>
 some (.inr anJ)
 else
 some (.inr false))
 else
 some (.inl ()))))))))))))))
 :Option iD)>>=λahV=>match ahV with
 | .inr r=>some r
 | .inl _=>
 some false
 )
 else
 some false)
partial_fixpoint
def fO (a0:List ae):Option (Bool):=
 ((
 lR a0 0
 :Option iD)>>=λacP=>match acP with
 | .inr r=>some r
 | .inl _=>
 some true
 )
partial_fixpoint
def wx (a0:List ae):Option (Bool):=
 (if (a0.length:Int)<2 then
 some false
 else
 T2 a0 1>>=λacQ=>
 fO acQ>>=λanK=>
 (if anK=true then
 qc a0 1>>=λRS=>
 ((
 idx RS 0>>=λJo=>
 (if Jo.ai=44 then
 (if Jo.aE=0 then
 bC Jo.aq>>=λacR=>
 (if acR=true then
 (if (Jo.af.length:Int)=2 then
 idx Jo.af 0>>=λUz=>
 hJ Uz>>=λacS=>
 (if acS=true then
 qc Jo.af 1>>=λRT=>
 fO RT>>=λCa=>
 (if Ca=true then
 qc RS 1>>=λacT=>
 some (.inl acT)
 else
 some (.inr false))
 else
 some (.inr false))
 else
 some (.inr false))
 else
 some (.inr false))
 else
 some (.inr false))
 else
 some (.inl RS))
 :Option (((List ae)) ⊕ Bool))>>=λahW=>match ahW with
 | .inr r=>some r
 | .inl MY=>
 (if (MY.length:Int)=0 then
 some true
 else
 idx MY 0>>=λzG=>
 (if (MY.length:Int)=1 then
 (if zG.ai=45 then
 (if zG.aE=0 then
 (if zG.aq=([]:aD) then
 (if (zG.af.length:Int)=1 then
 fO zG.af>>=λRU=>
 some RU
 else
 some false)
 else
 some false)
 else
 some false)
 else
 some false)
 else
 some false))
 )
 else
 some false))
partial_fixpoint
def tz (a0:ae):Option (Bool):=
 fg a0>>=λanL=>
 (if anL=true then
 cF a0>>=λanM=>
 some anM
 else
 some false)
partial_fixpoint
def lP (a0:ae) (AL:Int):Option uG:=
 (if AL<(a0.af.length:Int) then
 idx a0.af AL>>=λRV=>
 (if RV.ai=6 then
 (if RV.aE=0 then
 (if RV.aq=([]:aD) then
 Mz (RV.af.length:Int) 1 2>>=λv40=>
 (if v40=true then
 cP RV.af>>=λMA=>
 (if MA=true then
 lP a0 (bm (AL+1))
 else
 some (.inr (.inr false)))
 else
 some (.inr (.inr false)))
 else
 some (.inr (.inr false)))
 else
 some (.inr (.inr false)))
 else
 some (.inr (.inr false)))
 else
 some (.inl ()))
partial_fixpoint
def j7 (a0:List ae) (tA:Int):Option iD:=
 (if tA<(a0.length:Int) then
 idx a0 tA>>=λUA=>
 cF UA>>=λv183=>
 (if v183=true then
 j7 a0 (bm (tA+1))
 else
 some (.inr false))
 else
 some (.inl ()))
partial_fixpoint
def lQ (a0:ae) (tB:Int):Option uG:=
 (if tB<(a0.af.length:Int) then
 idx a0.af tB>>=λUB=>
 c8 UB>>=λHj=>
 (if Hj=true then
 lQ a0 (bm (tB+1))
 else
 some (.inr (.inr false)))
 else
 some (.inl ()))
partial_fixpoint
def lR (a0:List ae) (tC:Int):Option iD:=
 (if tC<(a0.length:Int) then
 idx a0 tC>>=λMZ=>
 (if MZ.ai=48 then
 c8 MZ>>=λacU=>
 (if acU=true then
 lR a0 (bm (tC+1))
 else
 some (.inr false))
 else
 some (.inr false))
 else
 some (.inl ()))
partial_fixpoint
end
def UC (a0:ae) (r:Bool):Prop:=Hk 72 a0 r
def M0 (a0:List ae) (r:Bool):Prop:=sg5 139 a0 r
def UD (a0:List ae) (a1:Bool) (r:Bool):Prop:=sg9 134 a0 a1 r
def P7 (a0:ae) (r:Bool):Prop:=Hk 68 a0 r
def UE (a0:List ae) (r:Bool):Prop:=sg5 137 a0 r
def UF (a0:List ae) (r:Bool):Prop:=sg5 141 a0 r
def UG (a0:ae) (r:Bool):Prop:=Hk 140 a0 r
inductive j8:ae->Int->uG->Prop
 | mk (anN:(List ae)->Option (Bool)) (aIy:∀a0 r,anN a0=some r->M0 a0 r) (uk:ae->Int->Option uG) (RW:∀a0 AL o,uk a0 AL=some o->j8 a0 AL o) (a0:ae) (AL:Int) (o:(Unit) ⊕ iD) (h:(
 (if AL<(a0.af.length:Int) then
 idx a0.af AL>>=λRV=>
 (if RV.ai=6 then
 (if RV.aE=0 then
 (if RV.aq=([]:aD) then
 Mz (RV.af.length:Int) 1 2>>=λv40=>
 (if v40=true then
 anN RV.af>>=λMA=>
 (if MA=true then
 uk a0 (bm (AL+1))
 else
 some (.inr (.inr false)))
 else
 some (.inr (.inr false)))
 else
 some (.inr (.inr false)))
 else
 some (.inr (.inr false)))
 else
 some (.inr (.inr false)))
 else
 some (.inl ()))
 )=some o):j8 a0 AL o
inductive iV:(List ae)->Int->iD->Prop
 | mk (G72:ae->Option (Bool)) (aI2:∀a0 r,G72 a0=some r->UC a0 r) (ra:(List ae)->Int->Option iD) (M1:∀a0 tA o,ra a0 tA=some o->iV a0 tA o) (a0:List ae) (tA:Int) (o:(Unit) ⊕ Bool) (h:(
 (if tA<(a0.length:Int) then
 idx a0 tA>>=λUA=>
 G72 UA>>=λv183=>
 (if v183=true then
 ra a0 (bm (tA+1))
 else
 some (.inr false))
 else
 some (.inl ()))
 )=some o):iV a0 tA o
inductive j9:ae->Int->uG->Prop
 | mk (G68:ae->Option (Bool)) (aCX:∀a0 r,G68 a0=some r->P7 a0 r) (um:ae->Int->Option uG) (RZ:∀a0 tB o,um a0 tB=some o->j9 a0 tB o) (a0:ae) (tB:Int) (o:(Unit) ⊕ iD) (h:(
 (if tB<(a0.af.length:Int) then
 idx a0.af tB>>=λUB=>
 G68 UB>>=λHj=>
 (if Hj=true then
 um a0 (bm (tB+1))
 else
 some (.inr (.inr false)))
 else
 some (.inl ()))
 )=some o):j9 a0 tB o
inductive kb:(List ae)->Int->iD->Prop
 | mk (G68:ae->Option (Bool)) (aCX:∀a0 r,G68 a0=some r->P7 a0 r) (uo:(List ae)->Int->Option iD) (R3:∀a0 tC o,uo a0 tC=some o->kb a0 tC o) (a0:List ae) (tC:Int) (o:(Unit) ⊕ Bool) (h:(
 (if tC<(a0.length:Int) then
 idx a0 tC>>=λMZ=>
 (if MZ.ai=48 then
 G68 MZ>>=λacU=>
 (if acU=true then
 uo a0 (bm (tC+1))
 else
 some (.inr false))
 else
 some (.inr false))
 else
 some (.inl ()))
 )=some o):kb a0 tC o
theorem rI:(∀a0 r,cF a0=some r->UC a0 r)/\(∀a0 a1 r,gm a0 a1=some r->UD a0 a1 r)/\(∀a0 r,c8 a0=some r->P7 a0 r)/\(∀a0 r,wx a0=some r->UF a0 r)/\(∀a0 r,fO a0=some r->UE a0 r)/\(∀a0 tC o,lR a0 tC=some o->kb a0 tC o)/\(∀a0 tB o,lQ a0 tB=some o->j9 a0 tB o)/\(∀a0 r,tz a0=some r->UG a0 r)/\(∀a0 r,cP a0=some r->M0 a0 r)/\(∀a0 tA o,j7 a0 tA=some o->iV a0 tA o)/\(∀a0 AL o,lP a0 AL=some o->j8 a0 AL o):=by
 refine cF.mutual_partial_correctness UC UD P7 UF UE kb j9 UG M0 iV j8 ?_ ?_ ?_ ?_ ?_ ?_ ?_ ?_ ?_ ?_ ?_
 intro _ _ _ ahX mm ahY a0 r h
 refine ep Tryz.func72 ?_
 refine .d (.d ⟨rfl,rfl,_,rfl,(.d ⟨rfl,rfl,_,rfl,(.d ⟨rfl,rfl,_,rfl,?_⟩)⟩)⟩)
 obtain ⟨o1,h,fD⟩:=bd h
 refine .cut (λσ η=>.inl ()=o1/\σ=[]/\η=[]) ?_ ?_
 refine .d ⟨rfl,rfl,_,rfl,(.d (sE h (λuX h=>?_) (λuX h=>?_)))⟩
 refine .d ⟨rfl,rfl,_,rfl,(bk h λv5 hv6 h=>(b8 (EJ hv6) (sV h (λEC h=>?_) (λEC h=>?_))))⟩
 refine .t (sE h (λFT h=>?_) (λFT h=>?_))
 refine .t (.t ?_)
 exact aLW
 refine .f (.f ?_)
 exact aLW
 refine .f (.f (.f (.f ?_)))
 exact aLW
 refine .d (sE h (λP8 h=>?_) (λP8 h=>?_))
 refine .d (sE h (λlS h=>?_) (λlS h=>?_))
 refine ⟨rfl,(.t ⟨rfl,_,rfl,(.t (.t (.t (sD h (λqR h=>?_) (λqR h=>?_)))))⟩)⟩
 refine .t (.t ?_)
 exact aLW
 refine .f (.f ?_)
 exact aLW
 refine .f (.f (.f (.f (.f (.f (.f ?_))))))
 exact aLW
 refine .d (sE h (λoI h=>?_) (λoI h=>?_))
 refine .d ⟨rfl,rfl,_,rfl,(bk h λml xu h=>(b8 (EJ xu) (sV h (λsg h=>?_) (λsg h=>?_))))⟩
 refine .t (sE h (λnK h=>?_) (λnK h=>?_))
 refine .t (.t ?_)
 exact aLW
 refine .f (.f ?_)
 exact aLW
 refine .f (.f (.f (.f ?_)))
 exact aLW
 refine .d (sE h (λyz h=>?_) (λyz h=>?_))
 refine .d ⟨rfl,_,rfl,(bk h λRQ M3 h=>(b8 (nY M3) ?_))⟩
 exact aLW
 refine .d (sE h (λyB h=>?_) (λyB h=>?_))
 obtain ⟨o21,h,R4⟩:=bd h
 refine .cut (λσ η=>.inl ()=o21/\σ=[(4,.bool (a0.aE==0)),(5,.bool (a0.aq==([]:aD)))]/\η=[]) ?_ ?_
 refine .d ⟨rfl,rfl,_,rfl,?_⟩
 have ahZ:=ahY _ _ _ h
 refine le (j8.rec (motive:=λp48 AL UH _=>a0=p48->o21=UH->aK _ _ [(4,.bool (a0.aE==0)),(5,.bool (a0.aq==([]:aD))),(63,sl 4 ae.cells a0.af),(64,pI (a0.af.length:Int)),(65,pI AL)] []) ?_ ahZ rfl rfl) (tk [] acV ⟨⟩)
 intro _ aCY _ _ p48 AL UH h ah0  M4 M5
 subst M4
 subst M5
 refine aK.round (.d (.d (sD h (λzH h=>?_) (λzH h=>?_))))
 refine .d (.d (bk h λRV UI h=>⟨bf UI,_,(aU UI).trans (ae.aO RV),rfl,_,_,rfl,aj,(.d ⟨rfl,rfl,_,rfl,(sN h (λzI h=>?_) (λzI h=>?_))⟩)⟩))
 refine .t (.t (.t (.t (.t (.t (.t (.t (.t (.t (.t (.t (.t (.t (.t ?_))))))))))))))
 refine .t (.t (.t (.t (.d ?_))))
 obtain rfl:=si h
 replace h:=R4
 exact aLW
 refine ⟨rfl,(.f ⟨rfl,_,rfl,(.f (.f (sN h (λzJ h=>?_) (λzJ h=>?_))))⟩)⟩
 refine .t (.t (.t (.t (.t (.t (.t (.t (.t (.t (.t (.t (.t (.t (.t ?_))))))))))))))
 refine .d ?_
 obtain rfl:=si h
 replace h:=R4
 exact aLW
 refine ⟨rfl,(.f ⟨rfl,_,rfl,(.f (.f (UJ h (λCb h=>?_) (λCb h=>?_))))⟩)⟩
 refine .t (.t (.t (.t (.t (.t (.t (.t (.t (.t (.t (.d ?_)))))))))))
 obtain rfl:=si h
 replace h:=R4
 exact aLW
 refine ⟨rfl,(.f ⟨rfl,_,rfl,(.f (.f (bk h λv40 ah1 h=>(b8 (EJ ah1) (.f (.f (fP h (λUK h=>?_) (λUK h=>?_))))))))⟩)⟩
 refine .t (.t (.t (.t (.t (.d ?_)))))
 obtain rfl:=si h
 replace h:=R4
 exact aLW
 refine ⟨rfl,(.f ⟨rfl,_,rfl,(.f (bk h λMA ah2 h=>(b8 (aCY _ _ ah2) (.f (.f (fP h (λah3 h=>?_) (λah3 h=>?_)))))))⟩)⟩
 refine .d ?_
 obtain rfl:=si h
 replace h:=R4
 exact aLW
 exact lg (ah0 _ _ _ h rfl rfl) (tk [] acV ⟨⟩)
 exact ct ⟨si h,rfl,rfl⟩ (tk [] wN ⟨⟩)
 rintro _ _ ⟨rfl,rfl,rfl⟩
 replace h:=R4
 refine .d (sE h (λHl h=>?_) (λHl h=>?_))
 refine .t ?_
 exact aLW
 refine .f ?_
 exact aLW
 obtain ⟨o53,h,aCZ⟩:=bd h
 refine .cut (λσ η=>∃b52,b52=o53/\σ=[(1,.aA 0 0 0 0),(3,pI (a0.af.length:Int)),(4,.bool (a0.aE==0)),(5,.bool (a0.aq==([]:aD))),(18,pI a0.ai),(100,.bool b52)]/\η=[.row 0 4 1 29 (λ_=>a0.lit)]) ?_ ?_
 refine .d (sE h (λM6 h=>?_) (λM6 h=>?_))
 exact aMN
 refine .d (sE h (λUL h=>?_) (λUL h=>?_))
 exact aMN
 refine .d (sE h (λHm h=>?_) (λHm h=>?_))
 exact aMN
 exact aMN
 rintro _ _ ⟨b52,rfl,rfl,rfl⟩
 replace h:=aCZ
 refine sV h (λaC0 h=>?_) (λaC0 h=>?_)
 refine .d (sE h (λah4 h=>?_) (λah4 h=>?_))
 refine .t (sE h (λM7 h=>?_) (λM7 h=>?_))
 refine .t (.t (sE h (λM8 h=>?_) (λM8 h=>?_)))
 refine ⟨rfl,(.t ⟨rfl,_,rfl,(.t (bk h λJl ah5 h=>(b8 (mm _ _ ah5) (.t ?_))))⟩)⟩
 exact aLW
 refine .f (.f (.f ?_))
 exact aLW
 refine .f (.f (.f (.f (.f (.f ?_)))))
 exact aLW
 refine .f (.f (.f (.f (.f (.f (.f (.f ?_)))))))
 exact aLW
 refine .d (sE h (λUM h=>?_) (λUM h=>?_))
 refine .d (sE h (λM9 h=>?_) (λM9 h=>?_))
 refine ⟨rfl,(.t ⟨rfl,_,rfl,(.t (bk h λEB ah6 h=>(b8 (cH ah6) (.t (sV h (λUN h=>?_) (λUN h=>?_))))))⟩)⟩
 refine .t (.t (sE h (λUO h=>?_) (λUO h=>?_)))
 refine ⟨rfl,(.t ⟨rfl,_,rfl,(.t (bk h λUm Na h=>(b8 (mm _ _ Na) (.t ?_))))⟩)⟩
 exact aLW
 refine .f (.f (.f ?_))
 exact aLW
 refine .f (.f (.f (.f (.f (.f ?_)))))
 exact aLW
 refine .f (.f (.f (.f (.f (.f (.f (.f (.f (.f ?_)))))))))
 exact aLW
 refine .d (sE h (λUP h=>?_) (λUP h=>?_))
 refine .d ⟨rfl,rfl,_,rfl,(sE h (λah7 h=>?_) (λah7 h=>?_))⟩
 refine .t (.t (.t (.t (.t (sE h (λaC1 h=>?_) (λaC1 h=>?_))))))
 refine .t (.t (sE h (λah8 h=>?_) (λah8 h=>?_)))
 refine ⟨rfl,(.t ⟨rfl,_,rfl,(.t (bk h λv77 aC2 h=>(b8 (mm _ _ aC2) (.t ?_))))⟩)⟩
 exact aLW
 refine .f (.f (.f ?_))
 exact aLW
 refine .f (.f (.f (.f (.f (.f ?_)))))
 exact aLW
 refine ⟨rfl,(.f ⟨rfl,_,rfl,(.f (.f (sE h (λUQ h=>?_) (λUQ h=>?_))))⟩)⟩
 refine .t (sE h (λaC3 h=>?_) (λaC3 h=>?_))
 refine .t (.t (sE h (λaC4 h=>?_) (λaC4 h=>?_)))
 refine ⟨rfl,(.t ⟨rfl,_,rfl,(.t (bk h λUn UR h=>(b8 (mm _ _ UR) (.t ?_))))⟩)⟩
 exact aLW
 refine .f (.f (.f ?_))
 exact aLW
 refine .f (.f (.f (.f (.f (.f ?_)))))
 exact aLW
 refine .f (.f (.f (.f (.f (.f (.f (.f ?_)))))))
 exact aLW
 refine .d (sE h (λah9 h=>?_) (λah9 h=>?_))
 refine .d ⟨rfl,rfl,_,rfl,(bk h λv85 Hn h=>(b8 (EJ Hn) (sV h (λUS h=>?_) (λUS h=>?_))))⟩
 refine .t (sE h (λaia h=>?_) (λaia h=>?_))
 refine .t (.t (sE h (λaC5 h=>?_) (λaC5 h=>?_)))
 refine ⟨rfl,(.t ⟨rfl,_,rfl,(.t (bk h λv90 aC6 h=>(b8 (mm _ _ aC6) (.t ?_))))⟩)⟩
 exact aLW
 refine .f (.f (.f ?_))
 exact aLW
 refine .f (.f (.f (.f (.f (.f ?_)))))
 exact aLW
 refine .f (.f (.f (.f (.f (.f (.f (.f ?_)))))))
 exact aLW
 refine .d (sE h (λaC7 h=>?_) (λaC7 h=>?_))
 refine .d (sE h (λaC8 h=>?_) (λaC8 h=>?_))
 refine .t (sE h (λaib h=>?_) (λaib h=>?_))
 refine .t (.t (sE h (λUT h=>?_) (λUT h=>?_)))
 refine ⟨rfl,(.t ⟨rfl,_,rfl,(.t (bk h λP6 UU h=>(b8 (mm _ _ UU) (.t ?_))))⟩)⟩
 exact aLW
 refine .f (.f (.f ?_))
 exact aLW
 refine .f (.f (.f (.f (.f (.f ?_)))))
 exact aLW
 refine .f (.f (.f (.f (.f (.f (.f (.f ?_)))))))
 exact aLW
 obtain ⟨o99,h,anO⟩:=bd h
 refine .cut (λσ η=>∃b98,b98=o99/\σ=[(1,.aA 0 0 0 0),(3,pI (a0.af.length:Int)),(4,.bool (a0.aE==0)),(5,.bool (a0.aq==([]:aD))),(18,pI a0.ai),(189,.bool b98)]/\η=[.row 0 4 1 29 (λ_=>a0.lit)]) ?_ ?_
 refine .d (sE h (λJp h=>?_) (λJp h=>?_))
 exact aMN
 exact aMN
 rintro _ _ ⟨b98,rfl,rfl,rfl⟩
 replace h:=anO
 refine sV h (λJq h=>?_) (λJq h=>?_)
 refine .d (sE h (λJr h=>?_) (λJr h=>?_))
 refine .t (sE h (λanP h=>?_) (λanP h=>?_))
 refine .t (.t (sE h (λanQ h=>?_) (λanQ h=>?_)))
 refine ⟨rfl,(.t ⟨rfl,_,rfl,(.t (bk h λv107 anR h=>(b8 (mm _ _ anR) (.t (sV h (λUW h=>?_) (λUW h=>?_))))))⟩)⟩
 refine ⟨rfl,(.t ⟨rfl,_,rfl,(.t (bk h λahI afG h=>⟨bf afG,_,(aU afG).trans (ae.aO ahI),(.t (.t (bk h λxt Js h=>(b8 (lT Js) (.t ?_)))))⟩))⟩)⟩
 exact aLW
 refine .f (.f (.f (.f (.f ?_))))
 exact aLW
 refine .f (.f (.f (.f (.f (.f (.f (.f (.f ?_))))))))
 exact aLW
 refine .f (.f (.f (.f (.f (.f (.f (.f (.f (.f (.f (.f ?_)))))))))))
 exact aLW
 refine .f (.f (.f (.f (.f (.f (.f (.f (.f (.f (.f (.f (.f (.f ?_)))))))))))))
 exact aLW
 refine .d (sE h (λJt h=>?_) (λJt h=>?_))
 refine .d (sE h (λanS h=>?_) (λanS h=>?_))
 refine ⟨rfl,(.t ⟨rfl,_,rfl,(.t (bk h λanv anT h=>(b8 (cH anT) (.t (sV h (λanU h=>?_) (λanU h=>?_))))))⟩)⟩
 refine .t (.t (sE h (λUX h=>?_) (λUX h=>?_)))
 refine ⟨rfl,(.t ⟨rfl,_,rfl,(.t (bk h λahJ afH h=>⟨bf afH,_,(aU afH).trans (ae.aO ahJ),(.t (.t (bk h λUo anV h=>(b8 (nY anV) (.t ?_)))))⟩))⟩)⟩
 exact aLW
 refine .f (.f (.f (.f (.f ?_))))
 exact aLW
 refine .f (.f (.f (.f (.f (.f (.f (.f ?_)))))))
 exact aLW
 refine .f (.f (.f (.f (.f (.f (.f (.f (.f (.f (.f (.f ?_)))))))))))
 exact aLW
 refine .d (sE h (λanW h=>?_) (λanW h=>?_))
 refine .d (sE h (λUY h=>?_) (λUY h=>?_))
 refine ⟨rfl,(.t ⟨rfl,_,rfl,(.t (bk h λJm UZ h=>(b8 (cH UZ) (.t (sV h (λU0 h=>?_) (λU0 h=>?_))))))⟩)⟩
 refine ⟨rfl,(.t ⟨rfl,_,rfl,(.t (bk h λUp U1 h=>(b8 (mm _ _ U1) (.t ?_))))⟩)⟩
 exact aLW
 refine .f (.f (.f ?_))
 exact aLW
 refine .f (.f (.f (.f (.f (.f (.f ?_))))))
 exact aLW
 refine .d (sE h (λanX h=>?_) (λanX h=>?_))
 refine .d (sE h (λanY h=>?_) (λanY h=>?_))
 refine .t (sE h (λU2 h=>?_) (λU2 h=>?_))
 refine .t (.t (sD h (λU3 h=>?_) (λU3 h=>?_)))
 refine ⟨rfl,(.t ⟨rfl,_,rfl,(.t (bk h λUq anZ h=>(b8 (mm _ _ anZ) (.t ?_))))⟩)⟩
 exact aLW
 refine .f (.f (.f ?_))
 exact aLW
 refine .f (.f (.f (.f (.f (.f ?_)))))
 exact aLW
 refine .f (.f (.f (.f (.f (.f (.f (.f ?_)))))))
 exact aLW
 refine .d (sE h (λan0 h=>?_) (λan0 h=>?_))
 refine .d (sE h (λan1 h=>?_) (λan1 h=>?_))
 refine ⟨rfl,(.t ⟨rfl,_,rfl,(.t (bk h λv139 an2 h=>(b8 (cH an2) (.t (sV h (λan3 h=>?_) (λan3 h=>?_))))))⟩)⟩
 refine .t (.t (sD h (λan4 h=>?_) (λan4 h=>?_)))
 refine ⟨rfl,(.t ⟨rfl,_,rfl,(.t (bk h λv143 U4 h=>(b8 (mm _ _ U4) (.t ?_))))⟩)⟩
 exact aLW
 refine .f (.f (.f ?_))
 exact aLW
 refine .f (.f (.f (.f (.f (.f ?_)))))
 exact aLW
 refine .f (.f (.f (.f (.f (.f (.f (.f (.f (.f ?_)))))))))
 exact aLW
 refine .d (sE h (λU5 h=>?_) (λU5 h=>?_))
 refine .d (sE h (λU6 h=>?_) (λU6 h=>?_))
 refine ⟨rfl,(.t ⟨rfl,_,rfl,(.t (bk h λMW U7 h=>(b8 (EH U7) (.t (sV h (λU8 h=>?_) (λU8 h=>?_))))))⟩)⟩
 refine ⟨rfl,(.t ⟨rfl,_,rfl,(.t (bk h λUr an5 h=>(b8 (mm _ _ an5) (.t ?_))))⟩)⟩
 exact aLW
 refine .f (.f (.f ?_))
 exact aLW
 refine .f (.f (.f (.f (.f (.f (.f ?_))))))
 exact aLW
 refine .d (sE h (λan6 h=>?_) (λan6 h=>?_))
 refine .d (sE h (λU9 h=>?_) (λU9 h=>?_))
 refine ⟨rfl,(.t ⟨rfl,_,rfl,(.t (.t (sE h (λJu h=>?_) (λJu h=>?_))))⟩)⟩
 refine .t (.t (.t (.t (.t (.t ⟨rfl,(.t ⟨rfl,_,rfl,(.t (bk h λUs Va h=>(b8 (mm _ _ Va) (.t ?_))))⟩)⟩)))))
 exact aLW
 refine ⟨rfl,(.f ⟨rfl,_,rfl,(.f (bk h λv157 an7 h=>(b8 (cH an7) (.t (.f (.t (sV h (λan8 h=>?_) (λan8 h=>?_))))))))⟩)⟩
 refine ⟨rfl,(.t ⟨rfl,_,rfl,(.t (bk h λv160 an9 h=>(b8 (mm _ _ an9) (.t ?_))))⟩)⟩
 exact aLW
 refine .f (.f (.f ?_))
 exact aLW
 refine .f (.f (.f (.f (.f (.f (.f (.f (.f ?_))))))))
 exact aLW
 refine .d (sE h (λVb h=>?_) (λVb h=>?_))
 refine .d (sE h (λVc h=>?_) (λVc h=>?_))
 refine .t (sE h (λJv h=>?_) (λJv h=>?_))
 refine ⟨rfl,(.t ⟨rfl,_,rfl,(.t (bk h λJn Vd h=>(b8 (ahX _ _ _ Vd) (.t ?_))))⟩)⟩
 exact aLW
 refine .f (.f (.f ?_))
 exact aLW
 refine .f (.f (.f (.f (.f ?_))))
 exact aLW
 exact aMF
 exact aMm
 intro _ aoa a0 a1 r h
 refine ep Tryz.func134 ?_
 refine .d (.d (.d (.d (sD h (λaob h=>?_) (λaob h=>?_)))))
 refine .t (.t (.t (.t (.t (.t (.t (.t (.t (.t (.t (.t (.t (.t (.d ?_))))))))))))))
 exact eB h
 refine .f (.f (bk h λahK afI h=>⟨bf afI,_,(aU afI).trans (ae.aO ahK),(.f (.f (.f (.f (sN h (λaoc h=>?_) (λaoc h=>?_))))))⟩))
 exact .t (.t (.t (.t (.t (.t (.t (.d (eB h))))))))
 refine .f (.f (bk h λahL AM h=>⟨bf AM,_,(aU AM).trans (ae.aO ahL),(.f (.f (bk h λRR Ve h=>(b8 (aoa _ _ Ve) (.f (.f (fP h (λVf h=>?_) (λVf h=>?_))))))))⟩))
 exact aMI
 refine .d ?_
 obtain ⟨Ut,h,AO⟩:=bd h
 refine .cut (λσ η=>.inl ()=Ut/\σ=[]/\η=[]) ?_ ?_
 refine .d (bk h λzF FU h=>⟨trivial,Ho FU,zF.length,row ae.cells zF,BS FU,Hp FU,?_⟩)
 refine le (iU.partial_correctness a1 zF (motive:=λMU MV aod=>Ut=aod->aK _ _ [(1,.bool a1),(6,.bool MU),(32,sl 4 ae.cells zF),(33,pI (zF.length:Int)),(34,pI MV)] []) ?_ false 0 Ut h rfl) (tk [] acV ⟨⟩)
 intro aI3 aoe MU MV aod h aof
 subst aof
 refine aK.round (.d (.d (sD h (λaog h=>?_) (λaog h=>?_))))
 refine .d (.d (bk h λHf afJ h=>⟨bf afJ,_,(aU afJ).trans (ae.aO Hf),rfl,_,_,rfl,aj,?_⟩))
 obtain ⟨ahH,h,Jw⟩:=bd h
 refine .cut (λσ η=>∃Ul,.inl Ul=ahH/\σ=[(1,.bool a1),(6,.bool Ul),(8,.aA 0 0 0 0),(32,sl 4 ae.cells zF),(33,pI (zF.length:Int)),(34,pI MV)]/\η=[.row 0 4 1 29 (λ_=>Hf.lit)]) ?_ ?_
 refine .d ⟨rfl,rfl,_,rfl,(sE h (λVg h=>?_) (λVg h=>?_))⟩
 refine .t (sV h (λCc h=>?_) (λCc h=>?_))
 exact aMQ
 refine .d ⟨rfl,rfl,_,rfl,(sN h (λaoh h=>?_) (λaoh h=>?_))⟩
 refine .t (.t (.d ?_))
 obtain rfl:=si h
 replace h:=Jw
 exact aMf
 refine .f (sV h (λaoi h=>?_) (λaoi h=>?_))
 refine .d ?_
 obtain rfl:=si h
 replace h:=Jw
 exact aMf
 exact aMQ
 refine .f (.f (.d ⟨rfl,rfl,_,rfl,(sN h (λaoj h=>?_) (λaoj h=>?_))⟩))
 refine .t (.t (.d ?_))
 obtain rfl:=si h
 replace h:=Jw
 exact aMf
 refine .f (sV h (λaok h=>?_) (λaok h=>?_))
 refine .d ?_
 obtain rfl:=si h
 replace h:=Jw
 exact aMf
 exact aMQ
 rintro _ _ ⟨Ul,rfl,rfl,rfl⟩
 replace h:=Jw
 refine .d ⟨rfl,rfl,_,rfl,(bk h λv222 aol h=>(b8 (EJ aol) (fP h (λaom h=>?_) (λaom h=>?_))))⟩
 refine .t (.t (.t (.t (.t (.t (.t (.t (.t (.t (.d ?_))))))))))
 exact aMf
 refine ⟨rfl,(.f ⟨rfl,_,rfl,(.f (bk h λanu aon h=>(b8 (cH aon) (.f (.f (fP h (λVh h=>?_) (λVh h=>?_)))))))⟩)⟩
 refine .t (.t (.t (.t (.t (.d ?_)))))
 exact aMf
 refine ⟨rfl,(.f ⟨rfl,_,rfl,(.f (.f (.f (sD h (λVi h=>?_) (λVi h=>?_)))))⟩)⟩
 refine .d ?_
 exact aMf
 exact lg (aoe _ _ _ h rfl) (tk [] acV ⟨⟩)
 exact aMF
 rintro _ _ ⟨rfl,rfl,rfl⟩
 replace h:=AO
 exact aMI
 intro _ _ _ _ _ _ AP aic u5 aoo aid mm a0 r h
 refine ep Tryz.func68 ?_
 refine .d (.d ⟨rfl,rfl,_,rfl,(.d ⟨rfl,rfl,_,rfl,(.d (.d ⟨rfl,rfl,_,rfl,(sN h (λVj h=>?_) (λVj h=>?_))⟩))⟩)⟩)
 exact aMI
 obtain ⟨ahV,h,eC⟩:=bd h
 refine .cut (λσ η=>.inl ()=ahV/\σ=[]/\η=[]) ?_ ?_
 refine .d ⟨rfl,rfl,_,rfl,(.d (sE h (λVk h=>?_) (λVk h=>?_)))⟩
 refine .d (UJ h (λVl h=>?_) (λVl h=>?_))
 refine ⟨rfl,(.t ⟨rfl,_,rfl,(.t (bk h λUu aop h=>(b8 (xr aop) (.t (.t (fP h (λaoq h=>?_) (λaoq h=>?_)))))))⟩)⟩
 refine .t (.t ?_)
 exact aLX
 refine .f (.f ?_)
 exact aLX
 refine .f (.f (.f (.f (.f (.f (.f ?_))))))
 exact aLX
 obtain ⟨aC9,h,aor⟩:=bd h
 refine .cut (λσ η=>∃Uv,Uv=aC9/\σ=[(1,.aA 0 0 0 0),(3,pI (a0.af.length:Int)),(4,.bool (a0.aq==([]:aD))),(17,pI a0.ai),(32,.bool Uv)]/\η=[.row 0 4 1 29 (λ_=>a0.lit)]) ?_ ?_
 refine .d (sE h (λaos h=>?_) (λaos h=>?_))
 exact aMP
 refine .d (sE h (λaot h=>?_) (λaot h=>?_))
 exact aMP
 exact aMP
 rintro _ _ ⟨Uv,rfl,rfl,rfl⟩
 replace h:=aor
 refine sV h (λVn h=>?_) (λVn h=>?_)
 refine .d (sE h (λVo h=>?_) (λVo h=>?_))
 refine .t (.t (sE h (λaou h=>?_) (λaou h=>?_)))
 refine ⟨rfl,(.t ⟨rfl,_,rfl,(.t (bk h λahM afK h=>⟨bf afK,_,(aU afK).trans (ae.aO ahM),(.t (.t (bk h λanw aov h=>(b8 (AP _ _ aov) (.t ?_)))))⟩))⟩)⟩
 exact aLX
 refine .f (.f (.f (.f (.f ?_))))
 exact aLX
 refine .f (.f (.f (.f (.f (.f (.f (.f ?_)))))))
 exact aLX
 refine .d (sE h (λaow h=>?_) (λaow h=>?_))
 refine .d (sE h (λaox h=>?_) (λaox h=>?_))
 refine .t (bk h λUw Vp h=>(b8 (EJ Vp) (.t (sV h (λVq h=>?_) (λVq h=>?_)))))
 refine ⟨rfl,(.t ⟨rfl,_,rfl,(.t (bk h λahN afL h=>⟨bf afL,_,(aU afL).trans (ae.aO ahN),(.t (.t (bk h λanx aoy h=>(b8 (AP _ _ aoy) (.t (sV h (λaoz h=>?_) (λaoz h=>?_)))))))⟩))⟩)⟩
 refine ⟨rfl,(.t ⟨rfl,_,rfl,(.t (bk h λqT Vr h=>⟨trivial,qd Vr,qT.length,row ae.cells qT,nZ Vr,n7 Vr,(.t (bk h λanz aoA h=>(b8 (u5 _ _ aoA) (.t ?_))))⟩))⟩)⟩
 exact aLX
 refine .f (.f (.f (.f ?_)))
 exact aLX
 refine .f (.f (.f (.f (.f (.f (.f (.f (.f (.f ?_)))))))))
 exact aLX
 refine .f (.f (.f (.f (.f (.f (.f (.f (.f (.f (.f (.f (.f ?_))))))))))))
 exact aLX
 refine .d (sE h (λaoB h=>?_) (λaoB h=>?_))
 refine .d (sE h (λaoC h=>?_) (λaoC h=>?_))
 refine .t (.t (sE h (λaoD h=>?_) (λaoD h=>?_)))
 refine ⟨rfl,(.t ⟨rfl,_,rfl,(.t (bk h λahO afM h=>⟨bf afM,_,(aU afM).trans (ae.aO ahO),(.t (.t (bk h λanA aoE h=>(b8 (AP _ _ aoE) (.t (sV h (λaoF h=>?_) (λaoF h=>?_)))))))⟩))⟩)⟩
 refine ⟨rfl,(.t ⟨rfl,_,rfl,(.t (bk h λacL Vs h=>⟨trivial,qd Vs,acL.length,row ae.cells acL,nZ Vs,n7 Vs,(.t (bk h λanB aoG h=>(b8 (u5 _ _ aoG) (.t ?_))))⟩))⟩)⟩
 exact aLX
 refine .f (.f (.f (.f ?_)))
 exact aLX
 refine .f (.f (.f (.f (.f (.f (.f (.f (.f (.f ?_)))))))))
 exact aLX
 refine .f (.f (.f (.f (.f (.f (.f (.f (.f (.f (.f (.f (.f ?_))))))))))))
 exact aLX
 refine .d (sE h (λaoH h=>?_) (λaoH h=>?_))
 refine .d (sE h (λaoI h=>?_) (λaoI h=>?_))
 refine .t (bk h λanC aoJ h=>(b8 (EJ aoJ) (.t (sV h (λaoK h=>?_) (λaoK h=>?_)))))
 refine ⟨rfl,(.t ⟨rfl,_,rfl,(.t (bk h λahP afN h=>⟨bf afN,_,(aU afN).trans (ae.aO ahP),(.t (.t (bk h λanD aoL h=>(b8 (AP _ _ aoL) (.t (sV h (λaoM h=>?_) (λaoM h=>?_)))))))⟩))⟩)⟩
 refine ⟨rfl,(.t ⟨rfl,_,rfl,(.t (bk h λahQ afO h=>⟨bf afO,_,(aU afO).trans (ae.aO ahQ),(.t (.t (bk h λanE aoN h=>(b8 (nY aoN) (.t (sV h (λaoO h=>?_) (λaoO h=>?_)))))))⟩))⟩)⟩
 refine .t (.t (sE h (λJx h=>?_) (λJx h=>?_)))
 refine .t (.t (.t (.t (.t (.t (.t (.t ⟨rfl,(.t ⟨rfl,_,rfl,(.t (.t (.t (bk h λacM FV h=>?_))))⟩)⟩)))))))
 refine ⟨trivial,qd FV,acM.length,row ae.cells acM,nZ FV,n7 FV,(.t (bk h λHg Vt h=>(b8 (u5 _ _ Vt) (.t ?_))))⟩
 exact aLX
 refine ⟨rfl,(.f ⟨rfl,_,rfl,(.f (bk h λahR afP h=>⟨bf afP,_,(aU afP).trans (ae.aO ahR),(.f (.f (bk h λHh Vu h=>(b8 (nY Vu) (.t (.f (.t (sV h (λVv h=>?_) (λVv h=>?_)))))))))⟩))⟩)⟩
 refine ⟨rfl,(.t ⟨rfl,_,rfl,(.t (.t (.t (bk h λacN Vw h=>⟨trivial,qd Vw,acN.length,row ae.cells acN,nZ Vw,n7 Vw,(.t (bk h λUx Vx h=>(b8 (u5 _ _ Vx) (.t ?_))))⟩))))⟩)⟩
 exact aLX
 refine .f (.f (.f (.f (.f (.f ?_)))))
 exact aLX
 refine .f (.f (.f (.f (.f (.f (.f (.f (.f (.f (.f ?_))))))))))
 exact aLX
 refine .f (.f (.f (.f (.f (.f (.f (.f (.f (.f (.f (.f (.f (.f (.f ?_))))))))))))))
 refine .f (.f ?_)
 exact aLX
 refine .f (.f (.f (.f (.f (.f (.f (.f (.f (.f (.f (.f (.f (.f (.f ?_))))))))))))))
 refine .f (.f (.f (.f (.f (.f (.f (.f ?_)))))))
 exact aLX
 refine .f (.f (.f (.f (.f (.f (.f (.f (.f (.f (.f (.f (.f (.f (.f ?_))))))))))))))
 refine .f (.f (.f (.f (.f (.f (.f (.f (.f (.f (.f ?_))))))))))
 exact aLX
 obtain ⟨aDa,h,aoP⟩:=bd h
 refine .cut (λσ η=>∃Uy,Uy=aDa/\σ=[(1,.aA 0 0 0 0),(3,pI (a0.af.length:Int)),(4,.bool (a0.aq==([]:aD))),(17,pI a0.ai),(128,.bool Uy)]/\η=[.row 0 4 1 29 (λ_=>a0.lit)]) ?_ ?_
 refine .d (sE h (λVy h=>?_) (λVy h=>?_))
 exact aMP
 exact aMP
 rintro _ _ ⟨Uy,rfl,rfl,rfl⟩
 replace h:=aoP
 refine sV h (λaoQ h=>?_) (λaoQ h=>?_)
 refine .d (sE h (λaoR h=>?_) (λaoR h=>?_))
 refine .t (.t ?_)
 exact aLX
 refine .f (.f ?_)
 exact aLX
 refine .d (sE h (λVz h=>?_) (λVz h=>?_))
 refine .d (sE h (λaoS h=>?_) (λaoS h=>?_))
 refine .t (.t (sD h (λaoT h=>?_) (λaoT h=>?_)))
 refine ⟨rfl,(.t ⟨rfl,_,rfl,(.t (bk h λMX VA h=>(b8 (mm _ _ VA) (.t ?_))))⟩)⟩
 exact aLX
 refine .f (.f (.f ?_))
 exact aLX
 refine .f (.f (.f (.f (.f (.f ?_)))))
 exact aLX
 refine .d (sE h (λaoU h=>?_) (λaoU h=>?_))
 refine .d ⟨rfl,rfl,_,rfl,(bk h λanF aoV h=>(b8 (cH aoV) (sV h (λaoW h=>?_) (λaoW h=>?_))))⟩
 refine .t (.t ?_)
 exact aLX
 refine .f (.f ?_)
 exact aLX
 refine .d (sE h (λaoX h=>?_) (λaoX h=>?_))
 refine .d (sE h (λaoY h=>?_) (λaoY h=>?_))
 refine .t (.t (sE h (λVB h=>?_) (λVB h=>?_)))
 refine ⟨rfl,(.t ⟨rfl,_,rfl,(.t (bk h λahS afQ h=>⟨bf afQ,_,(aU afQ).trans (ae.aO ahS),(.t (.t (bk h λanG aoZ h=>(b8 (aid _ _ aoZ) (.t ?_)))))⟩))⟩)⟩
 exact aLX
 refine .f (.f (.f (.f (.f ?_))))
 exact aLX
 refine .f (.f (.f (.f (.f (.f (.f (.f ?_)))))))
 exact aLX
 refine .d (sE h (λao0 h=>?_) (λao0 h=>?_))
 refine .d (sE h (λao1 h=>?_) (λao1 h=>?_))
 refine .t (.t (sE h (λao2 h=>?_) (λao2 h=>?_)))
 refine .t (.t (.t (.t (.t (.t (.t ⟨rfl,(.t ⟨rfl,_,rfl,(.t (.t (.t (bk h λahT afR h=>⟨bf afR,_,(aU afR).trans (ae.aO ahT),?_⟩))))⟩)⟩))))))
 refine .t (.t (bk h λanH ao3 h=>(b8 (AP _ _ ao3) (.t ?_))))
 exact aLX
 refine .f (.f (sE h (λVC h=>?_) (λVC h=>?_)))
 refine ⟨rfl,(.t ⟨rfl,_,rfl,(.t (bk h λoH Jy h=>⟨bf Jy,_,(aU Jy).trans (ae.aO oH),(.t (.t (bk h λHi ao4 h=>(b8 (nY ao4) (.f (.t (.t (.f (.t ?_)))))))))⟩))⟩)⟩
 refine sV h (λao5 h=>?_) (λao5 h=>?_)
 refine ⟨rfl,(.t ⟨rfl,_,rfl,(.t (.t (.t (bk h λahU afS h=>⟨bf afS,_,(aU afS).trans (ae.aO ahU),(.t (.t (bk h λanI ao6 h=>(b8 (AP _ _ ao6) (.t ?_)))))⟩))))⟩)⟩
 exact aLX
 refine .f (.f (.f (.f (.f (.f (.f ?_))))))
 exact aLX
 refine .f (.f (.f (.f (.f (.f (.t (.f (.t (.f (.f (.f (.f (.f (.f ?_))))))))))))))
 refine .f (.f ?_)
 exact aLX
 refine .f (.f (.f (.f (.f (.f (.f (.f (.f (.f (.f (.f ?_)))))))))))
 exact aLX
 refine .d (sE h (λVD h=>?_) (λVD h=>?_))
 refine .d ⟨rfl,rfl,_,rfl,(sD h (λVE h=>?_) (λVE h=>?_))⟩
 refine .t (.t ?_)
 exact aLX
 refine .f (.f ?_)
 exact aLX
 refine .d (sE h (λJz h=>?_) (λJz h=>?_))
 obtain ⟨acO,h,afT⟩:=bd h
 refine .cut (λσ η=>.inl ()=acO/\σ=[(4,.bool (a0.aq==([]:aD)))]/\η=[]) ?_ ?_
 refine .d ⟨rfl,rfl,_,rfl,?_⟩
 have ao7:=aoo _ _ _ h
 refine le (j9.rec (motive:=λao8 tB ao9 _=>a0=ao8->acO=ao9->aK _ _ [(4,.bool (a0.aq==([]:aD))),(211,sl 4 ae.cells a0.af),(212,pI (a0.af.length:Int)),(213,pI tB)] []) ?_ ao7 rfl rfl) (tk [] ⟨.b,.l,.i,.i,⟨⟩⟩ ⟨⟩)
 intro _ apa _ _ ao8 tB ao9 h apb  acW apc
 subst acW
 subst apc
 refine aK.round (.d (.d (sD h (λapd h=>?_) (λapd h=>?_))))
 refine .d (.d (bk h λUB afU h=>⟨bf afU,_,(aU afU).trans (ae.aO UB),rfl,_,_,rfl,aj,(.d ⟨rfl,_,rfl,(bk h λHj ape h=>(b8 (apa _ _ ape) (fP h (λVF h=>?_) (λVF h=>?_))))⟩)⟩))
 refine .d ?_
 obtain rfl:=si h
 replace h:=afT
 exact aLX
 exact lg (apb _ _ _ h rfl rfl) (tk [] ⟨.b,.l,.i,.i,⟨⟩⟩ ⟨⟩)
 exact ct ⟨si h,rfl,rfl⟩ (tk [] ⟨.b,⟨⟩⟩ ⟨⟩)
 rintro _ _ ⟨rfl,rfl,rfl⟩
 replace h:=afT
 refine .d ?_
 exact aLX
 refine .d (sE h (λVG h=>?_) (λVG h=>?_))
 refine .d (sE h (λVH h=>?_) (λVH h=>?_))
 refine ⟨rfl,(.t ⟨rfl,_,rfl,(.t (bk h λanJ apf h=>(b8 (aic _ _ apf) (.t ?_))))⟩)⟩
 exact aLX
 refine .f (.f (.f ?_))
 exact aLX
 exact aMF
 rintro _ _ ⟨rfl,rfl,rfl⟩
 replace h:=eC
 exact aMI
 intro _ u5 a0 r h
 refine ep Tryz.func141 ?_
 refine .d (.d (.d (sD h (λapg h=>?_) (λapg h=>?_))))
 exact .t (.t (.t (.t (.t (.d (eB h))))))
 refine .f (bk h λacQ VI h=>⟨trivial,Ho VI,acQ.length,row ae.cells acQ,BS VI,Hp VI,(.f (bk h λanK aph h=>(b8 (u5 _ _ aph) (.f (.f (fP h (λapi h=>?_) (λapi h=>?_)))))))⟩)
 exact aMI
 refine .d (bk h λRS VJ h=>⟨trivial,qd VJ,RS.length,row ae.cells RS,nZ VJ,n7 VJ,?_⟩)
 obtain ⟨ahW,h,FW⟩:=bd h
 refine .cut (λσ η=>∃MY,.inl MY=ahW/\σ=[(3,sl 4 ae.cells MY)]/\η=[]) ?_ ?_
 refine .d (bk h λJo afV h=>⟨bf afV,_,(aU afV).trans (ae.aO Jo),rfl,_,_,rfl,aj,(.d ⟨rfl,rfl,_,rfl,(sE h (λapj h=>?_) (λapj h=>?_))⟩)⟩)
 refine .d (.d ⟨rfl,rfl,_,rfl,(sN h (λapk h=>?_) (λapk h=>?_))⟩)
 refine .t (.t (.t (.t (.t (.t (.t (.t (.t (.t (.t (.t (.t (.t (.t ?_))))))))))))))
 refine .t (.t (.t (.t (.t (.t (.t (.t (.d ?_))))))))
 exact aMi
 refine ⟨rfl,(.f ⟨rfl,_,rfl,(.f (bk h λacR apl h=>(b8 (cH apl) (.f (.f (fP h (λapm h=>?_) (λapm h=>?_)))))))⟩)⟩
 refine .t (.t (.t (.t (.t (.t (.t (.t (.t (.t (.t (.t (.t (.t (.t ?_))))))))))))))
 refine .t (.t (.t (.d ?_)))
 exact aMi
 refine ⟨rfl,(.f ⟨rfl,_,rfl,(.f (.f (.f (sN h (λapn h=>?_) (λapn h=>?_)))))⟩)⟩
 refine .t (.t (.t (.t (.t (.t (.t (.t (.t (.t (.t (.t (.t (.d ?_)))))))))))))
 exact aMi
 refine ⟨rfl,(.f ⟨rfl,_,rfl,(.f (bk h λUz afW h=>⟨bf afW,_,(aU afW).trans (ae.aO Uz),(.f (.f (bk h λacS apo h=>(b8 (nY apo) (.f (.f (fP h (λapq h=>?_) (λapq h=>?_))))))))⟩))⟩)⟩
 refine .t (.t (.t (.t (.t (.t (.d ?_))))))
 exact aMi
 refine ⟨rfl,(.f ⟨rfl,_,rfl,(.f (bk h λRT VK h=>⟨trivial,qd VK,RT.length,row ae.cells RT,nZ VK,n7 VK,(.f (bk h λCa VL h=>(b8 (u5 _ _ VL) (.f (.f (fP h (λVM h=>?_) (λVM h=>?_)))))))⟩))⟩)⟩
 refine .d ?_
 exact aMi
 exact bk h λacT VN h=>⟨trivial,qd VN,acT.length,row ae.cells acT,nZ VN,n7 VN,(ct ⟨_,si h,rfl,rfl⟩ (tk [] ⟨.l,⟨⟩⟩ ⟨⟩))⟩
 exact ct ⟨_,si h,rfl,rfl⟩ (tk [] ⟨.l,⟨⟩⟩ ⟨⟩)
 rintro _ _ ⟨MY,rfl,rfl,rfl⟩
 replace h:=FW
 refine .d (.d (sE h (λapr h=>?_) (λapr h=>?_)))
 exact aMI
 refine .d (bk h λzG afX h=>⟨bf afX,_,(aU afX).trans (ae.aO zG),rfl,_,_,rfl,aj,(.d (sE h (λaps h=>?_) (λaps h=>?_)))⟩)
 refine ⟨rfl,(.t ⟨rfl,_,rfl,(.t (.t (sE h (λapt h=>?_) (λapt h=>?_))))⟩)⟩
 refine ⟨rfl,(.t ⟨rfl,_,rfl,(.t (.t (sE h (λVO h=>?_) (λVO h=>?_))))⟩)⟩
 refine ⟨rfl,(.t ⟨rfl,_,rfl,(.t (.t (sE h (λapu h=>?_) (λapu h=>?_))))⟩)⟩
 refine ⟨rfl,(.t ⟨rfl,_,rfl,(.t (.t (.t (sE h (λapv h=>?_) (λapv h=>?_)))))⟩)⟩
 exact ⟨rfl,(.t ⟨rfl,_,rfl,(.t (bk h λRU apw h=>(b8 (u5 _ _ apw) (.t (eB h)))))⟩)⟩
 exact aMS
 exact aMW
 exact .f (.f (.f (.f (.f (.f (.f (.f (.f (.f (.f (.f (eB h))))))))))))
 refine .f (.f (.f (.f (.f (.f (.f (.f (.f (.f (.f (.f (.f (.f (.f ?_))))))))))))))
 exact .f (eB h)
 refine .f (.f (.f (.f (.f (.f (.f (.f (.f (.f (.f (.f (.f (.f (.f ?_))))))))))))))
 exact .f (.f (.f (.f (.f (eB h)))))
 intro _ apx a0 r h
 refine ep Tryz.func137 ?_
 refine .d ?_
 obtain ⟨acP,h,VP⟩:=bd h
 refine .cut (λσ η=>.inl ()=acP/\σ=[]/\η=[]) ?_ ?_
 refine .d ?_
 have apy:=apx _ _ _ h
 refine le (kb.rec (motive:=λapz tC apA _=>a0=apz->acP=apA->aK _ _ [(5,sl 4 ae.cells a0),(6,pI (a0.length:Int)),(7,pI tC)] []) ?_ apy rfl rfl) (tk [] Hq ⟨⟩)
 intro _ apB _ _ apz tC apA h apC  acX apD
 subst acX
 subst apD
 refine aK.round (.d (.d (sD h (λapE h=>?_) (λapE h=>?_))))
 refine .d (.d (bk h λMZ afY h=>⟨bf afY,_,(aU afY).trans (ae.aO MZ),rfl,_,_,rfl,aj,(.d ⟨rfl,rfl,_,rfl,(sN h (λapF h=>?_) (λapF h=>?_))⟩)⟩))
 refine .t (.t (.t (.t (.d ?_))))
 obtain rfl:=si h
 replace h:=VP
 exact eB h
 refine ⟨rfl,_,rfl,(.f (bk h λacU apG h=>(b8 (apB _ _ apG) (.f (.f (fP h (λapH h=>?_) (λapH h=>?_)))))))⟩
 refine .d ?_
 obtain rfl:=si h
 replace h:=VP
 exact eB h
 exact lg (apC _ _ _ h rfl rfl) (tk [] Hq ⟨⟩)
 exact aMF
 rintro _ _ ⟨rfl,rfl,rfl⟩
 replace h:=VP
 exact aMI
 intro F0 F1 n8 n9 a0 tC o h
 exact .mk F0 n8 F1 n9 a0 tC o h
 intro F0 F1 n8 n9 a0 tB o h
 exact .mk F0 n8 F1 n9 a0 tB o h
 intro _ AP a0 r h
 refine ep Tryz.func140 ?_
 refine .d (.d ⟨rfl,_,rfl,(bk h λanL apI h=>(b8 (lT apI) (sV h (λapJ h=>?_) (λapJ h=>?_))))⟩)
 exact ⟨rfl,_,rfl,(.t (bk h λanM apK h=>(b8 (AP _ _ apK) (.t (eB h)))))⟩
 exact .f (.f (eB h))
 intro _ apL a0 r h
 refine ep Tryz.func139 ?_
 refine .d ?_
 obtain ⟨acK,h,afZ⟩:=bd h
 refine .cut (λσ η=>.inl ()=acK/\σ=[]/\η=[]) ?_ ?_
 refine .d ?_
 have apM:=apL _ _ _ h
 refine le (iV.rec (motive:=λapN tA apO _=>a0=apN->acK=apO->aK _ _ [(5,sl 4 ae.cells a0),(6,pI (a0.length:Int)),(7,pI tA)] []) ?_ apM rfl rfl) (tk [] Hq ⟨⟩)
 intro _ apP _ _ apN tA apO h apQ  acY apR
 subst acY
 subst apR
 refine aK.round (.d (.d (sD h (λVQ h=>?_) (λVQ h=>?_))))
 refine .d (.d (bk h λUA af0 h=>⟨bf af0,_,(aU af0).trans (ae.aO UA),rfl,_,_,rfl,aj,(.d ⟨rfl,_,rfl,(bk h λv183 VR h=>(b8 (apP _ _ VR) (fP h (λapS h=>?_) (λapS h=>?_))))⟩)⟩))
 refine .d ?_
 obtain rfl:=si h
 replace h:=afZ
 exact eB h
 exact lg (apQ _ _ _ h rfl rfl) (tk [] Hq ⟨⟩)
 exact aMF
 rintro _ _ ⟨rfl,rfl,rfl⟩
 replace h:=afZ
 exact aMI
 intro F0 F1 n8 n9 a0 tA o h
 exact .mk F0 n8 F1 n9 a0 tA o h
 intro F0 F1 n8 n9 a0 AL o h
 exact .mk F0 n8 F1 n9 a0 AL o h
theorem AQ {a0:ae} {r:Bool} (h:cF a0=some r):Hk 72 a0 r:=rI.1 a0 r h
theorem uq {a0:List ae} {a1:Bool} {r:Bool} (h:gm a0 a1=some r):sg9 134 a0 a1 r:=rI.2.1 a0 a1 r h
theorem JA {a0:ae} {r:Bool} (h:c8 a0=some r):Hk 68 a0 r:=rI.2.2.1 a0 r h
def gO (a0:ae) (ur:Int) (nO:Int):Option uG:=
 (if nO<(a0.af.length:Int) then
 idx a0.af nO>>=λyC=>
 bC yC.aq>>=λzy=>
 (if zy=true then
 (if yC.ai=52 then
 (if a0.ai=51 then
 some (.inr (.inr false))
 else
 (if ur>0 then
 some (.inr (.inr false))
 else
 (if yC.aE=0 then
 (if (yC.af.length:Int)>0 then
 some (.inr (.inr false))
 else
 gO a0 1 (bm (nO+1)))
 else
 some (.inr (.inr false)))))
 else
 (if yC.ai=53 then
 (if ur>1 then
 some (.inr (.inr false))
 else
 (if yC.aE=0 then
 (if (yC.af.length:Int)>0 then
 some (.inr (.inr false))
 else
 gO a0 1 (bm (nO+1)))
 else
 some (.inr (.inr false))))
 else
 (if yC.ai=54 then
 (if yC.aE=0 then
 (if (yC.af.length:Int)=1 then
 idx yC.af 0>>=λx54=>
 Mz x54.ai 1 3>>=λyD=>
 (if yD=true then
 idx yC.af 0>>=λx59=>
 cF x59>>=λCd=>
 (if Cd=true then
 gO a0 2 (bm (nO+1))
 else
 some (.inr (.inr false)))
 else
 some (.inr (.inr false)))
 else
 some (.inr (.inr false)))
 else
 (if yC.aE=1 then
 (if (yC.af.length:Int)=1 then
 idx yC.af 0>>=λx43=>
 Mz x43.ai 1 3>>=λqO=>
 (if qO=true then
 idx yC.af 0>>=λx48=>
 cF x48>>=λJB=>
 (if JB=true then
 gO a0 2 (bm (nO+1))
 else
 some (.inr (.inr false)))
 else
 some (.inr (.inr false)))
 else
 some (.inr (.inr false)))
 else
 some (.inr (.inr false))))
 else
 (if yC.ai=55 then
 Mz yC.aE 0 3>>=λv65=>
 (if v65=true then
 gm yC.af false>>=λAR=>
 (if AR=true then
 gO a0 2 (bm (nO+1))
 else
 some (.inr (.inr false)))
 else
 some (.inr (.inr false)))
 else
 some (.inr (.inr false))))))
 else
 some (.inr (.inr false)))
 else
 some (.inl ()))
partial_fixpoint
def sh (a0:ae):Option (Bool):=
 (if a0.aE=0 then
 bC a0.aq>>=λv2=>
 (if v2=true then
 ((
 (if a0.ai=49 then
 gm a0.af false>>=λv9=>
 some (.inr v9)
 else
 (
 (if a0.ai=50 then
 some (a0.ai==50)
 else
 some (a0.ai==51))
 :Option (Bool))>>=λVS=>
 (if VS=true then
 ((
 gO a0 0 0
 :Option uG)>>=λJC=>match JC with
 | .inr r=>some r
 | .inl _=>
 some (.inr true)
 )
 else
 some (.inl ())))
 :Option iD)>>=λo5=>match o5 with
 | .inr r=>some r
 | .inl _=>
 some false
 )
 else
 some false)
 else
 some false)
theorem Nb {a0:ae} {r:Bool} (h:sh a0=some r):Hk 67 a0 r:=by
 refine ep Tryz.func67 ?_
 unfold sh at h
 refine .d (.d (.d ⟨rfl,rfl,_,rfl,(sN h (λmJ h=>?_) (λmJ h=>?_))⟩))
 exact .t (.t (.t (.t (.t (.d (eB h))))))
 refine ⟨rfl,(.f ⟨rfl,_,rfl,(.f (bk h λv2 tD h=>(b8 (cH tD) (.f (.f (fP h (λuX h=>?_) (λuX h=>?_)))))))⟩)⟩
 exact aMI
 obtain ⟨o5,h,ym⟩:=bd h
 refine .cut (λσ η=>.inl ()=o5/\σ=[]/\η=[]) ?_ ?_
 refine .d ⟨rfl,rfl,_,rfl,(.d (sE h (λFT h=>?_) (λFT h=>?_)))⟩
 refine .d ⟨rfl,rfl,_,rfl,(bk h λv9 ahG h=>(b8 (uq ahG) ?_))⟩
 exact aMa
 obtain ⟨o12,h,aDb⟩:=bd h
 refine .cut (λσ η=>∃VS,VS=o12/\σ=[(1,.aA 0 0 0 0),(22,.bool VS)]/\η=[.row 0 4 1 29 (λ_=>a0.lit)]) ?_ ?_
 refine .d (sE h (λsg h=>?_) (λsg h=>?_))
 exact ct ⟨_,si h,rfl,rfl⟩ (tk [0] ⟨.p,.b,⟨⟩⟩ gx)
 exact ct ⟨_,si h,rfl,rfl⟩ (tk [0] ⟨.p,.b,⟨⟩⟩ gx)
 rintro _ _ ⟨VS,rfl,rfl,rfl⟩
 replace h:=aDb
 refine sV h (λnK h=>?_) (λnK h=>?_)
 refine .d ?_
 obtain ⟨JC,h,qU⟩:=bd h
 refine .cut (λσ η=>.inl ()=JC/\σ=[]/\η=[]) ?_ ?_
 refine .d ⟨rfl,rfl,_,rfl,?_⟩
 refine le (gO.partial_correctness a0 (motive:=λur nO o71=>JC=o71->aK _ _ [(1,.aA 0 0 0 0),(3,pI ur),(26,sl 4 ae.cells a0.af),(27,pI (a0.af.length:Int)),(28,pI nO)] [.row 0 4 1 29 (λ_=>a0.lit)]) ?_ 0 0 JC h rfl) (tk [0] R6 gx)
 intro F23 Nc ur nO o71 h aDc
 subst aDc
 refine aK.round (.d (.d (sD h (λJD h=>?_) (λJD h=>?_))))
 refine .d (.d (bk h λyC Bi h=>⟨bf Bi,_,(aU Bi).trans (ae.aO yC),rfl,_,_,rfl,aj,(.d (.d ⟨rfl,rfl,_,rfl,(bk h λzy Nd h=>(b8 (cH Nd) (fP h (λzK h=>?_) (λzK h=>?_))))⟩))⟩))
 refine .d ?_
 obtain rfl:=si h
 exact aMr
 refine .d ⟨rfl,rfl,_,rfl,(.d (sE h (λHr h=>?_) (λHr h=>?_)))⟩
 refine .d (.d ⟨rfl,rfl,_,rfl,(sE h (λzL h=>?_) (λzL h=>?_))⟩)
 refine .t (.t (.t (.t (.t (.t (.t (.t (.t (.t (.t (.t (.d ?_))))))))))))
 obtain rfl:=si h
 exact aMr
 refine .f (.f (sD h (λCe h=>?_) (λCe h=>?_)))
 refine .t (.t (.t (.t (.t (.t (.t (.t (.t (.d ?_)))))))))
 obtain rfl:=si h
 exact aMr
 refine ⟨rfl,(.f ⟨rfl,_,rfl,(.f (.f (sN h (λHs h=>?_) (λHs h=>?_))))⟩)⟩
 refine .t (.t (.t (.t (.t (.d ?_)))))
 obtain rfl:=si h
 exact aMr
 refine ⟨rfl,(.f ⟨rfl,_,rfl,(.f (.f (.f (sD h (λzH h=>?_) (λzH h=>?_)))))⟩)⟩
 refine .d ?_
 obtain rfl:=si h
 exact aMr
 exact aMR
 refine .d (sE h (λCf h=>?_) (λCf h=>?_))
 refine .d (.d (sD h (λVT h=>?_) (λVT h=>?_)))
 refine .t (.t (.t (.t (.t (.t (.t (.t (.t (.d ?_)))))))))
 obtain rfl:=si h
 exact aMr
 refine ⟨rfl,(.f ⟨rfl,_,rfl,(.f (.f (sN h (λzI h=>?_) (λzI h=>?_))))⟩)⟩
 refine .t (.t (.t (.t (.t (.d ?_)))))
 obtain rfl:=si h
 exact aMr
 refine ⟨rfl,(.f ⟨rfl,_,rfl,(.f (.f (.f (sD h (λzJ h=>?_) (λzJ h=>?_)))))⟩)⟩
 refine .d ?_
 obtain rfl:=si h
 exact aMr
 exact aMR
 refine .d (sE h (λCb h=>?_) (λCb h=>?_))
 refine .d (.d ⟨rfl,rfl,_,rfl,(sN h (λNf h=>?_) (λNf h=>?_))⟩)
 refine ⟨rfl,(.t ⟨rfl,_,rfl,(.t (.t (sN h (λaDd h=>?_) (λaDd h=>?_))))⟩)⟩
 refine .t (.t (.t (.t (.t (.t (.t (.t (.t (.t (.t (.t (.t (.t (.t ?_))))))))))))))
 refine .t (.t (.t (.t (.t (.d ?_)))))
 obtain rfl:=si h
 exact aMr
 refine ⟨rfl,(.f ⟨rfl,_,rfl,(.f (.f (.f (sN h (λUK h=>?_) (λUK h=>?_)))))⟩)⟩
 refine .t (.t (.t (.t (.t (.t (.t (.t (.t (.t (.t (.t (.t (.t (.t ?_))))))))))))))
 refine .d ?_
 obtain rfl:=si h
 exact aMr
 refine ⟨rfl,(.f ⟨rfl,_,rfl,(.f (bk h λx43 apT h=>⟨bf apT,_,(aU apT).trans (ae.aO x43),(.f (.f (.f (bk h λqO Ng h=>(b8 (EJ Ng) (.f (.f (fP h (λCg h=>?_) (λCg h=>?_)))))))))⟩))⟩)⟩
 refine .t (.t (.t (.t (.t (.t (.t (.d ?_)))))))
 obtain rfl:=si h
 exact aMr
 refine ⟨rfl,(.f ⟨rfl,_,rfl,(.f (bk h λx48 JE h=>⟨bf JE,_,(aU JE).trans (ae.aO x48),(.f (.f (bk h λJB Nh h=>(b8 (AQ Nh) (.f (.f (fP h (λaie h=>?_) (λaie h=>?_))))))))⟩))⟩)⟩
 refine .d ?_
 obtain rfl:=si h
 exact aMr
 exact aMR
 refine .f (.f (.f (.f ⟨rfl,(.f ⟨rfl,_,rfl,(.f (.f (.f (sN h (λaDe h=>?_) (λaDe h=>?_)))))⟩)⟩)))
 refine .t (.t (.t (.t (.t (.t (.t (.t (.t (.t (.t (.t (.t (.t (.t ?_))))))))))))))
 refine .d ?_
 obtain rfl:=si h
 exact aMr
 refine ⟨rfl,(.f ⟨rfl,_,rfl,(.f (bk h λx54 apU h=>⟨bf apU,_,(aU apU).trans (ae.aO x54),(.f (.f (.f (bk h λyD aif h=>(b8 (EJ aif) (.f (.f (fP h (λHm h=>?_) (λHm h=>?_)))))))))⟩))⟩)⟩
 refine .t (.t (.t (.t (.t (.t (.t (.d ?_)))))))
 obtain rfl:=si h
 exact aMr
 refine ⟨rfl,(.f ⟨rfl,_,rfl,(.f (bk h λx59 JF h=>⟨bf JF,_,(aU JF).trans (ae.aO x59),(.f (.f (bk h λCd VU h=>(b8 (AQ VU) (.f (.f (fP h (λaih h=>?_) (λaih h=>?_))))))))⟩))⟩)⟩
 refine .d ?_
 obtain rfl:=si h
 exact aMr
 exact aMR
 refine .d (sE h (λVV h=>?_) (λVV h=>?_))
 refine .d (.d ⟨rfl,rfl,_,rfl,(bk h λv65 aii h=>(b8 (EJ aii) (fP h (λaDf h=>?_) (λaDf h=>?_))))⟩)
 refine .t (.t (.t (.t (.t (.d ?_)))))
 obtain rfl:=si h
 exact aMr
 refine ⟨rfl,(.f ⟨rfl,_,rfl,(.f (bk h λAR VW h=>(b8 (uq VW) (.f (.f (fP h (λUO h=>?_) (λUO h=>?_)))))))⟩)⟩
 refine .d ?_
 obtain rfl:=si h
 exact aMr
 exact aMR
 refine .d ?_
 obtain rfl:=si h
 exact aMr
 exact aMF
 rintro _ _ ⟨rfl,rfl,rfl⟩
 replace h:=qU
 refine .d ?_
 exact aMa
 exact aMF
 rintro _ _ ⟨rfl,rfl,rfl⟩
 replace h:=ym
 exact aMI
def iP (a0:ae) (qP:Int):Option iD:=
 (if qP<(a0.af.length:Int) then
 idx a0.af qP>>=λEK=>
 sh EK>>=λqV=>
 (if qV=true then
 iP a0 (bm (qP+1))
 else
 c8 EK>>=λnL=>
 (if nL=true then
 iP a0 (bm (qP+1))
 else
 some (.inr false)))
 else
 some (.inl ()))
partial_fixpoint
def mQ (a0:ae):Option (Bool):=
 (if a0.ai=56 then
 (if a0.aE=0 then
 (if a0.aq=([]:aD) then
 lU a0>>=λv4=>
 (if v4=true then
 ((
 iP a0 0
 :Option iD)>>=λo7=>match o7 with
 | .inr r=>some r
 | .inl _=>
 some true
 )
 else
 some false)
 else
 some false)
 else
 some false)
 else
 some false)
theorem EL {a0:ae} {r:Bool} (h:mQ a0=some r):Hk 27 a0 r:=by
 refine ep Tryz.func27 ?_
 unfold mQ at h
 refine .d (.d (.d ⟨rfl,rfl,_,rfl,(sN h (λmJ h=>?_) (λmJ h=>?_))⟩))
 exact .t (.t (.t (.t (.t (.t (.t (.t (.t (.t (.t (.t (.d (eB h)))))))))))))
 refine ⟨rfl,(.f ⟨rfl,_,rfl,(.f (.f (sN h (λAS h=>?_) (λAS h=>?_))))⟩)⟩
 exact aMU
 refine ⟨rfl,(.f ⟨rfl,_,rfl,(.f (.f (UJ h (λzA h=>?_) (λzA h=>?_))))⟩)⟩
 exact .t (.t (.t (.t (.d (eB h)))))
 refine ⟨rfl,_,rfl,(.f (bk h λv4 Ni h=>(b8 (Ch Ni) (.f (.f (fP h (λBR h=>?_) (λBR h=>?_)))))))⟩
 exact aMI
 obtain ⟨o7,h,JG⟩:=bd h
 refine .cut (λσ η=>.inl ()=o7/\σ=[]/\η=[]) ?_ ?_
 refine .d ⟨rfl,rfl,_,rfl,?_⟩
 refine le (iP.partial_correctness a0 (motive:=λqP T3=>o7=T3->aK _ _ [(24,sl 4 ae.cells a0.af),(25,pI (a0.af.length:Int)),(26,pI qP)] []) ?_ 0 o7 h rfl) (tk [] Hq ⟨⟩)
 intro F12 Nj qP T3 h aDg
 subst aDg
 refine aK.round (.d (.d (sD h (λsj h=>?_) (λsj h=>?_))))
 refine .d (.d (bk h λEK yE h=>⟨bf yE,_,(aU yE).trans (ae.aO EK),rfl,_,_,rfl,aj,(.d ⟨rfl,_,rfl,(bk h λqV Ci h=>(b8 (Nb Ci) (fP h (λyF h=>?_) (λyF h=>?_))))⟩)⟩))
 refine ⟨rfl,_,rfl,(.t (bk h λnL VX h=>(b8 (JA VX) (.t (.t (fP h (λEM h=>?_) (λEM h=>?_)))))))⟩
 refine .d ?_
 exact aMd
 exact lg (Nj _ _ h rfl) (tk [] Hq ⟨⟩)
 exact .f (.f (.f (.f (lg (Nj _ _ h rfl) (tk [] Hq ⟨⟩)))))
 exact aMF
 rintro _ _ ⟨rfl,rfl,rfl⟩
 replace h:=JG
 exact aMI
set_option maxRecDepth 100000
def gn (a0:List ae) (a1:Bool) (acZ:Bool) (Ht:Int):Option iD:=
 (if Ht<(bm ((a0.length:Int) - 1)) then
 idx a0 Ht>>=λwO=>
 (
 (if wO.ai=25 then
 some true
 else
 some acZ)
 :Option (Bool))>>=λJH=>
 (if wO.ai=24 then
 (if JH=true then
 (if wO.ai=25 then
 (if a1=true then
 yn wO.aE 0 1>>=λJn=>
 (if Jn=true then
 dH wO.aq>>=λv168=>
 (if v168=true then
 (if (wO.af.length:Int)>0 then
 some (.inr false)
 else
 gn a0 a1 JH (bm (Ht+1)))
 else
 some (.inr false))
 else
 some (.inr false))
 else
 some (.inr false))
 else
 some (.inr false))
 else
 yn wO.aE 0 1>>=λapV=>
 (if apV=true then
 dH wO.aq>>=λv159=>
 (if v159=true then
 (if (wO.af.length:Int)>0 then
 some (.inr false)
 else
 gn a0 a1 JH (bm (Ht+1)))
 else
 some (.inr false))
 else
 some (.inr false)))
 else
 (if wO.ai=25 then
 (if a1=true then
 yn wO.aE 0 1>>=λVY=>
 (if VY=true then
 dH wO.aq>>=λJI=>
 (if JI=true then
 (if (wO.af.length:Int)>0 then
 some (.inr false)
 else
 gn a0 a1 JH (bm (Ht+1)))
 else
 some (.inr false))
 else
 some (.inr false))
 else
 some (.inr false))
 else
 some (.inr false)))
 else
 some (.inl ()))
partial_fixpoint
mutual
def bD (a0:ae):Option (Bool):=
 eD a0>>=λ(v1,v2)=>
 (if v1=true then
 (if v2=true then
 ((
 (
 (if a0.ai=1 then
 some (a0.ai==1)
 else
 (if a0.ai=2 then
 some (a0.ai==2)
 else
 (if a0.ai=3 then
 some (a0.ai==3)
 else
 some (a0.ai==4))))
 :Option (Bool))>>=λb9=>
 (if b9=true then
 some (.inr ((a0.af.length:Int)==0))
 else
 (if a0.ai=5 then
 ((
 kA a0 0
 :Option uG)>>=λP9=>match P9 with
 | .inr r=>some r
 | .inl _=>
 some (.inr true)
 )
 else
 (
 (if a0.ai=8 then
 some (a0.ai==8)
 else
 some (a0.ai==9))
 :Option (Bool))>>=λb46=>
 (if b46=true then
 (if (a0.af.length:Int)=1 then
 idx a0.af 0>>=λx53=>
 bD x53>>=λVZ=>
 some (.inr VZ)
 else
 some (.inr false))
 else
 (
 (if a0.ai=7 then
 some (a0.ai==7)
 else
 (if a0.ai=10 then
 some (a0.ai==10)
 else
 (if a0.ai=11 then
 some (a0.ai==11)
 else
 (if a0.ai=12 then
 some (a0.ai==12)
 else
 some (a0.ai==13)))))
 :Option (Bool))>>=λb57=>
 (if b57=true then
 (if (a0.af.length:Int)=2 then
 fF a0.af 0>>=λEB=>
 some (.inr EB)
 else
 some (.inr false))
 else
 (if a0.ai=14 then
 (if (a0.af.length:Int)=3 then
 fF a0.af 0>>=λUm=>
 some (.inr Um)
 else
 some (.inr false))
 else
 (
 (if a0.ai=15 then
 some (a0.ai==15)
 else
 some (a0.ai==16))
 :Option (Bool))>>=λb73=>
 (if b73=true then
 (if (a0.af.length:Int)=2 then
 idx a0.af 0>>=λx80=>
 ff x80>>=λUn=>
 (if Un=true then
 fF a0.af 0>>=λv85=>
 some (.inr v85)
 else
 some (.inr false))
 else
 some (.inr false))
 else
 (if a0.ai=17 then
 (if (a0.af.length:Int)=1 then
 idx a0.af 0>>=λx89=>
 (if x89.ai=4 then
 idx a0.af 0>>=λx92=>
 bD x92>>=λv94=>
 some (.inr v94)
 else
 some (.inr false))
 else
 some (.inr false))
 else
 (
 (if a0.ai=18 then
 some (a0.ai==18)
 else
 (if a0.ai=21 then
 some (a0.ai==21)
 else
 some (a0.ai==22)))
 :Option (Bool))>>=λb96=>
 (if b96=true then
 fF a0.af 0>>=λapW=>
 some (.inr apW)
 else
 (
 (if a0.ai=19 then
 some (a0.ai==19)
 else
 some (a0.ai==20))
 :Option (Bool))>>=λV0=>
 (if V0=true then
 (if (a0.af.length:Int)>=1 then
 fF a0.af 0>>=λxt=>
 some (.inr xt)
 else
 some (.inr false))
 else
 (if a0.ai=23 then
 jS a0.af true>>=λBj=>
 some (.inr Bj)
 else
 some (.inl ())))))))))))
 :Option iD)>>=λo6=>match o6 with
 | .inr r=>some r
 | .inl _=>
 some false
 )
 else
 some false)
 else
 some false)
partial_fixpoint
def fF (a0:List ae) (a1:Int):Option (Bool):=
 ((
 kB a0 a1
 :Option iD)>>=λac0=>match ac0 with
 | .inr r=>some r
 | .inl _=>
 some true
 )
partial_fixpoint
def jS (a0:List ae) (a1:Bool):Option (Bool):=
 ((
 gn a0 a1 false 0
 :Option iD)>>=λV1=>match V1 with
 | .inr r=>some r
 | .inl _=>
 (if (bm ((a0.length:Int) - 1))>=0 then
 idx a0 (bm ((a0.length:Int) - 1))>>=λaij=>
 cb aij>>=λV2=>
 some V2
 else
 some false)
 )
partial_fixpoint
def cb (a0:ae):Option (Bool):=
 (if a0.ai=48 then
 (if a0.aE=0 then
 (if a0.aq=([]:aD) then
 ((
 kc a0 0
 :Option iD)>>=λac1=>match ac1 with
 | .inr r=>some r
 | .inl _=>
 some true
 )
 else
 some false)
 else
 some false)
 else
 some false)
partial_fixpoint
def dS (a0:ae):Option (Bool):=
 eD a0>>=λ(apX,JJ)=>
 (if apX=true then
 (if JJ=true then
 ((
 (
 (if a0.ai=31 then
 some (a0.ai==31)
 else
 (if a0.ai=37 then
 some (a0.ai==37)
 else
 (if a0.ai=38 then
 some (a0.ai==38)
 else
 (if a0.ai=40 then
 some (a0.ai==40)
 else
 some (a0.ai==47)))))
 :Option (Bool))>>=λV3=>
 (if V3=true then
 some (.inr ((a0.af.length:Int)==0))
 else
 (
 (if a0.ai=32 then
 some (a0.ai==32)
 else
 (if a0.ai=33 then
 some (a0.ai==33)
 else
 some (a0.ai==42)))
 :Option (Bool))>>=λV4=>
 (if V4=true then
 (if (a0.af.length:Int)=1 then
 idx a0.af 0>>=λaik=>
 bD aik>>=λzM=>
 some (.inr zM)
 else
 some (.inr false))
 else
 (if a0.ai=39 then
 (if (a0.af.length:Int)<=1 then
 fF a0.af 0>>=λJK=>
 some (.inr JK)
 else
 some (.inr false))
 else
 (if a0.ai=41 then
 (if (a0.af.length:Int)=1 then
 idx a0.af 0>>=λail=>
 ff ail>>=λapY=>
 (if apY=true then
 idx a0.af 0>>=λaim=>
 bD aim>>=λUw=>
 some (.inr Uw)
 else
 some (.inr false))
 else
 some (.inr false))
 else
 (if a0.ai=34 then
 yn (a0.af.length:Int) 2 3>>=λR7=>
 (if R7=true then
 idx a0.af 0>>=λain=>
 bD ain>>=λapZ=>
 (if apZ=true then
 idx a0.af 1>>=λaio=>
 cb aio>>=λap0=>
 (if ap0=true then
 idx a0.af (bm ((a0.af.length:Int) - 1))>>=λaip=>
 cb aip>>=λJL=>
 some (.inr JL)
 else
 some (.inr false))
 else
 some (.inr false))
 else
 some (.inr false))
 else
 (if a0.ai=35 then
 (if (a0.af.length:Int)=2 then
 idx a0.af 0>>=λaiq=>
 bD aiq>>=λap1=>
 (if ap1=true then
 idx a0.af 1>>=λair=>
 cb air>>=λap2=>
 some (.inr ap2)
 else
 some (.inr false))
 else
 some (.inr false))
 else
 (if a0.ai=36 then
 yn (a0.af.length:Int) 3 4>>=λap3=>
 (if ap3=true then
 T2 a0.af (bm ((a0.af.length:Int) - 1))>>=λac2=>
 fF ac2 0>>=λap4=>
 (if ap4=true then
 idx a0.af 1>>=λais=>
 (if ais.ai=4 then
 idx a0.af (bm ((a0.af.length:Int) - 2))>>=λait=>
 (if ait.ai=4 then
 idx a0.af (bm ((a0.af.length:Int) - 1))>>=λaiu=>
 cb aiu>>=λNk=>
 some (.inr Nk)
 else
 some (.inr false))
 else
 some (.inr false))
 else
 some (.inr false))
 else
 some (.inr false))
 else
 (if a0.ai=46 then
 yn (a0.af.length:Int) 1 2>>=λUx=>
 (if Ux=true then
 fF a0.af 0>>=λJM=>
 (if JM=true then
 (if (a0.af.length:Int)=1 then
 some (.inr true)
 else
 idx a0.af 0>>=λaiv=>
 some (.inr (aiv.ai==4)))
 else
 some (.inr false))
 else
 some (.inr false))
 else
 (if a0.ai=48 then
 cb a0>>=λNl=>
 some (.inr Nl)
 else
 (if a0.ai=43 then
 yn (a0.af.length:Int) 2 3>>=λap5=>
 (if ap5=true then
 idx a0.af 0>>=λaiw=>
 cb aiw>>=λV5=>
 (if V5=true then
 ((
 fh a0 1
 :Option uG)>>=λac3=>match ac3 with
 | .inr r=>some r
 | .inl _=>
 some (.inr true)
 )
 else
 some (.inr false))
 else
 some (.inr false))
 else
 some (.inl ())))))))))))
 :Option iD)>>=λaix=>match aix with
 | .inr r=>some r
 | .inl _=>
 some false
 )
 else
 some false)
 else
 some false)
partial_fixpoint
def kA (a0:ae) (nO:Int):Option uG:=
 (if nO<(a0.af.length:Int) then
 idx a0.af nO>>=λEN=>
 (if EN.ai=6 then
 (if EN.aE=0 then
 (if EN.aq=([]:aD) then
 yn (EN.af.length:Int) 1 2>>=λV6=>
 (if V6=true then
 fF EN.af 0>>=λuu=>
 (if uu=true then
 kA a0 (bm (nO+1))
 else
 some (.inr (.inr false)))
 else
 some (.inr (.inr false)))
 else
 some (.inr (.inr false)))
 else
 some (.inr (.inr false)))
 else
 some (.inr (.inr false)))
 else
 some (.inl ()))
partial_fixpoint
def kB (a0:List ae) (tE:Int):Option iD:=
 (if tE<(a0.length:Int) then
 idx a0 tE>>=λV7=>
 bD V7>>=λv131=>
 (if v131=true then
 kB a0 (bm (tE+1))
 else
 some (.inr false))
 else
 some (.inl ()))
partial_fixpoint
def kc (a0:ae) (tF:Int):Option iD:=
 (if tF<(a0.af.length:Int) then
 idx a0.af tF>>=λV8=>
 dS V8>>=λNn=>
 (if Nn=true then
 kc a0 (bm (tF+1))
 else
 some (.inr false))
 else
 some (.inl ()))
partial_fixpoint
def fh (a0:ae) (oa:Int):Option uG:=
 (if oa<(a0.af.length:Int) then
 idx a0.af oa>>=λoH=>
 eD oH>>=λ(Hi,u6)=>
 (
 (if oH.ai=44 then
 (if oa=1 then
 (if (oH.af.length:Int)=2 then
 idx oH.af 0>>=λV9=>
 (if V9.ai=4 then
 idx oH.af 0>>=λWa=>
 bD Wa>>=λac4=>
 (if ac4=true then
 idx oH.af 1>>=λWb=>
 cb Wb>>=λxw=>
 some xw
 else
 some false)
 else
 some false)
 else
 some false)
 else
 some false)
 else
 some false)
 :Option (Bool))>>=λJN=>
 (
 (if oH.ai=45 then
 (if oa=(bm ((a0.af.length:Int) - 1)) then
 (if (oH.af.length:Int)=1 then
 idx oH.af 0>>=λWc=>
 cb Wc>>=λac5=>
 some ac5
 else
 some false)
 else
 some false)
 else
 some false)
 :Option (Bool))>>=λNp=>
 (if Hi=true then
 (if u6=true then
 (if JN=true then
 fh a0 (bm (oa+1))
 else
 (if Np=true then
 fh a0 (bm (oa+1))
 else
 some (.inr (.inr false))))
 else
 some (.inr (.inr false)))
 else
 some (.inr (.inr false)))
 else
 some (.inl ()))
partial_fixpoint
end
def Qa (a0:ae) (r:Bool):Prop:=Hk 79 a0 r
def Nq (a0:List ae) (a1:Int) (r:Bool):Prop:=ACall Tryz.prog 149 [sl 4 ae.cells a0,pI a1] [] (λres h=>res=.bool r/\h=[])
def af1 (a0:List ae) (a1:Bool) (r:Bool):Prop:=sg9 77 a0 a1 r
def Wd (a0:ae) (r:Bool):Prop:=Hk 80 a0 r
def We (a0:ae) (r:Bool):Prop:=Hk 76 a0 r
inductive jv:ae->Int->uG->Prop
 | mk (ap6:(List ae)->Int->Option (Bool)) (aIz:∀a0 a1 r,ap6 a0 a1=some r->Nq a0 a1 r) (sn:ae->Int->Option uG) (Qb:∀a0 nO o,sn a0 nO=some o->jv a0 nO o) (a0:ae) (nO:Int) (o:(Unit) ⊕ iD) (h:(
 (if nO<(a0.af.length:Int) then
 idx a0.af nO>>=λEN=>
 (if EN.ai=6 then
 (if EN.aE=0 then
 (if EN.aq=([]:aD) then
 yn (EN.af.length:Int) 1 2>>=λV6=>
 (if V6=true then
 ap6 EN.af 0>>=λuu=>
 (if uu=true then
 sn a0 (bm (nO+1))
 else
 some (.inr (.inr false)))
 else
 some (.inr (.inr false)))
 else
 some (.inr (.inr false)))
 else
 some (.inr (.inr false)))
 else
 some (.inr (.inr false)))
 else
 some (.inl ()))
 )=some o):jv a0 nO o
inductive jw:(List ae)->Int->iD->Prop
 | mk (G79:ae->Option (Bool)) (aDh:∀a0 r,G79 a0=some r->Qa a0 r) (so:(List ae)->Int->Option iD) (Qc:∀a0 tE o,so a0 tE=some o->jw a0 tE o) (a0:List ae) (tE:Int) (o:(Unit) ⊕ Bool) (h:(
 (if tE<(a0.length:Int) then
 idx a0 tE>>=λV7=>
 G79 V7>>=λv131=>
 (if v131=true then
 so a0 (bm (tE+1))
 else
 some (.inr false))
 else
 some (.inl ()))
 )=some o):jw a0 tE o
inductive iW:ae->Int->iD->Prop
 | mk (G76:ae->Option (Bool)) (aI4:∀a0 r,G76 a0=some r->We a0 r) (rb:ae->Int->Option iD) (Nr:∀a0 tF o,rb a0 tF=some o->iW a0 tF o) (a0:ae) (tF:Int) (o:(Unit) ⊕ Bool) (h:(
 (if tF<(a0.af.length:Int) then
 idx a0.af tF>>=λV8=>
 G76 V8>>=λNn=>
 (if Nn=true then
 rb a0 (bm (tF+1))
 else
 some (.inr false))
 else
 some (.inl ()))
 )=some o):iW a0 tF o
inductive jx:ae->Int->uG->Prop
 | mk (G79:ae->Option (Bool)) (aDh:∀a0 r,G79 a0=some r->Qa a0 r) (G80:ae->Option (Bool)) (aI5:∀a0 r,G80 a0=some r->Wd a0 r) (oc:ae->Int->Option uG) (Qd:∀a0 oa o,oc a0 oa=some o->jx a0 oa o) (a0:ae) (oa:Int) (o:(Unit) ⊕ iD) (h:(
 (if oa<(a0.af.length:Int) then
 idx a0.af oa>>=λoH=>
 eD oH>>=λ(Hi,u6)=>
 (
 (if oH.ai=44 then
 (if oa=1 then
 (if (oH.af.length:Int)=2 then
 idx oH.af 0>>=λV9=>
 (if V9.ai=4 then
 idx oH.af 0>>=λWa=>
 G79 Wa>>=λac4=>
 (if ac4=true then
 idx oH.af 1>>=λWb=>
 G80 Wb>>=λxw=>
 some xw
 else
 some false)
 else
 some false)
 else
 some false)
 else
 some false)
 else
 some false)
 :Option (Bool))>>=λJN=>
 (
 (if oH.ai=45 then
 (if oa=(bm ((a0.af.length:Int) - 1)) then
 (if (oH.af.length:Int)=1 then
 idx oH.af 0>>=λWc=>
 G80 Wc>>=λac5=>
 some ac5
 else
 some false)
 else
 some false)
 else
 some false)
 :Option (Bool))>>=λNp=>
 (if Hi=true then
 (if u6=true then
 (if JN=true then
 oc a0 (bm (oa+1))
 else
 (if Np=true then
 oc a0 (bm (oa+1))
 else
 some (.inr (.inr false))))
 else
 some (.inr (.inr false)))
 else
 some (.inr (.inr false)))
 else
 some (.inl ()))
 )=some o):jx a0 oa o
theorem qe:(∀a0 r,bD a0=some r->Qa a0 r)/\(∀a0 a1 r,jS a0 a1=some r->af1 a0 a1 r)/\(∀a0 r,cb a0=some r->Wd a0 r)/\(∀a0 tF o,kc a0 tF=some o->iW a0 tF o)/\(∀a0 r,dS a0=some r->We a0 r)/\(∀a0 oa o,fh a0 oa=some o->jx a0 oa o)/\(∀a0 a1 r,fF a0 a1=some r->Nq a0 a1 r)/\(∀a0 tE o,kB a0 tE=some o->jw a0 tE o)/\(∀a0 nO o,kA a0 nO=some o->jv a0 nO o):=by
 refine bD.mutual_partial_correctness Qa af1 Wd iW We jx Nq jw jv ?_ ?_ ?_ ?_ ?_ ?_ ?_ ?_ ?_
 intro _ _ _ _ Cj ap7 tG aDi a0 r h
 refine ep Tryz.func79 ?_
 refine .d (.d ⟨rfl,_,rfl,?_⟩)
 obtain ⟨⟨v1,v2⟩,tD,h⟩:=bd h
 refine b8 (kC tD) (.d ⟨rfl,rfl,_,rfl,(.d (.d (fP h (λuX h=>?_) (λuX h=>?_))))⟩)
 exact .t (.t (.t (.d (eB h))))
 refine .f (.f (fP h (λAK h=>?_) (λAK h=>?_)))
 exact aMI
 obtain ⟨o6,h,wy⟩:=bd h
 refine .cut (λσ η=>.inl ()=o6/\σ=[]/\η=[]) ?_ ?_
 refine .d ⟨rfl,rfl,_,rfl,?_⟩
 obtain ⟨T4,h,Hu⟩:=bd h
 refine .cut (λσ η=>∃b9,b9=T4/\σ=[(1,.aA 0 0 0 0),(5,pI (a0.af.length:Int)),(23,pI a0.ai),(24,.bool b9)]/\η=[.row 0 4 1 29 (λ_=>a0.lit)]) ?_ ?_
 refine .d (sE h (λsj h=>?_) (λsj h=>?_))
 exact aME
 refine .d (sE h (λsq h=>?_) (λsq h=>?_))
 exact aME
 refine .d (sE h (λsg h=>?_) (λsg h=>?_))
 exact aME
 exact aME
 rintro _ _ ⟨b9,rfl,rfl,rfl⟩
 replace h:=Hu
 refine sV h (λnK h=>?_) (λnK h=>?_)
 refine .d ?_
 exact aLZ
 refine .d (sE h (λyz h=>?_) (λyz h=>?_))
 obtain ⟨P9,h,JO⟩:=bd h
 refine .cut (λσ η=>.inl ()=P9/\σ=[]/\η=[]) ?_ ?_
 refine .d ?_
 have aDj:=aDi _ _ _ h
 refine le (jv.rec (motive:=λp43 nO o41 _=>a0=p43->P9=o41->aK _ _ [(1,.aA 0 0 0 0),(5,pI (a0.af.length:Int)),(6,pI nO)] [.row 0 4 1 29 (λ_=>a0.lit)]) ?_ aDj rfl rfl) (tk [0] EO gx)
 intro _ aiy _ _ p43 nO o41 h Nc  aiz aiA
 subst aiz
 subst aiA
 refine aK.round (.d (.d (sD h (λzK h=>?_) (λzK h=>?_))))
 refine .d (.d ⟨rfl,rfl,_,rfl,(bk h λEN tH h=>⟨bf tH,_,(aU tH).trans (ae.aO EN),rfl,_,_,rfl,aj,(.d ⟨rfl,rfl,_,rfl,(sN h (λCe h=>?_) (λCe h=>?_))⟩)⟩)⟩)
 refine .t (.t (.t (.t (.t (.t (.t (.t (.t (.t (.t (.t (.t (.t (.t ?_))))))))))))))
 refine .t (.t (.t (.t (.d ?_))))
 obtain rfl:=si h
 replace h:=JO
 exact aLZ
 refine ⟨rfl,(.f ⟨rfl,_,rfl,(.f (.f (sN h (λHs h=>?_) (λHs h=>?_))))⟩)⟩
 refine .t (.t (.t (.t (.t (.t (.t (.t (.t (.t (.t (.t (.t (.t (.t ?_))))))))))))))
 refine .d ?_
 obtain rfl:=si h
 replace h:=JO
 exact aLZ
 refine ⟨rfl,(.f ⟨rfl,_,rfl,(.f (.f (UJ h (λzH h=>?_) (λzH h=>?_))))⟩)⟩
 refine .t (.t (.t (.t (.t (.t (.t (.t (.t (.t (.t (.d ?_)))))))))))
 obtain rfl:=si h
 replace h:=JO
 exact aLZ
 refine ⟨rfl,(.f ⟨rfl,_,rfl,(.f (.f (bk h λV6 Wf h=>(b8 (rJ Wf) (.f (.f (fP h (λzI h=>?_) (λzI h=>?_))))))))⟩)⟩
 refine .t (.t (.t (.t (.t (.d ?_)))))
 obtain rfl:=si h
 replace h:=JO
 exact aLZ
 refine ⟨rfl,(.f ⟨rfl,_,rfl,(.f (bk h λuu Ns h=>(b8 (aiy _ _ _ Ns) (.f (.f (fP h (λNf h=>?_) (λNf h=>?_)))))))⟩)⟩
 refine .d ?_
 obtain rfl:=si h
 replace h:=JO
 exact aLZ
 exact lg (Nc _ _ _ h rfl rfl) (tk [0] EO gx)
 exact aMF
 rintro _ _ ⟨rfl,rfl,rfl⟩
 replace h:=JO
 refine .d ?_
 exact aLZ
 obtain ⟨o47,h,aDk⟩:=bd h
 refine .cut (λσ η=>∃b46,b46=o47/\σ=[(1,.aA 0 0 0 0),(5,pI (a0.af.length:Int)),(23,pI a0.ai),(69,.bool b46)]/\η=[.row 0 4 1 29 (λ_=>a0.lit)]) ?_ ?_
 refine .d (sE h (λWg h=>?_) (λWg h=>?_))
 exact aME
 exact aME
 rintro _ _ ⟨b46,rfl,rfl,rfl⟩
 replace h:=aDk
 refine sV h (λHl h=>?_) (λHl h=>?_)
 refine .d (sE h (λaie h=>?_) (λaie h=>?_))
 refine ⟨rfl,(.t ⟨rfl,_,rfl,(.t (bk h λx53 ap8 h=>⟨bf ap8,_,(aU ap8).trans (ae.aO x53),(.t (.t (bk h λVZ Wh h=>(b8 (Cj _ _ Wh) (.t ?_)))))⟩))⟩)⟩
 exact aLZ
 refine .f (.f (.f (.f (.f ?_))))
 exact aLZ
 obtain ⟨o58,h,aDl⟩:=bd h
 refine .cut (λσ η=>∃b57,b57=o58/\σ=[(1,.aA 0 0 0 0),(5,pI (a0.af.length:Int)),(23,pI a0.ai),(81,.bool b57)]/\η=[.row 0 4 1 29 (λ_=>a0.lit)]) ?_ ?_
 refine .d (sE h (λM7 h=>?_) (λM7 h=>?_))
 exact aME
 refine .d (sE h (λM8 h=>?_) (λM8 h=>?_))
 exact aME
 refine .d (sE h (λaih h=>?_) (λaih h=>?_))
 exact aME
 refine .d (sE h (λVV h=>?_) (λVV h=>?_))
 exact aME
 exact aME
 rintro _ _ ⟨b57,rfl,rfl,rfl⟩
 replace h:=aDl
 refine sV h (λUM h=>?_) (λUM h=>?_)
 refine .d (sE h (λM9 h=>?_) (λM9 h=>?_))
 refine ⟨rfl,(.t ⟨rfl,_,rfl,(.t (bk h λEB ah6 h=>(b8 (tG _ _ _ ah6) (.t ?_))))⟩)⟩
 exact aLZ
 refine .f (.f (.f ?_))
 exact aLZ
 refine .d (sE h (λUN h=>?_) (λUN h=>?_))
 refine .d (sE h (λUO h=>?_) (λUO h=>?_))
 refine ⟨rfl,(.t ⟨rfl,_,rfl,(.t (bk h λUm Na h=>(b8 (tG _ _ _ Na) (.t ?_))))⟩)⟩
 exact aLZ
 refine .f (.f (.f ?_))
 exact aLZ
 obtain ⟨o74,h,aDm⟩:=bd h
 refine .cut (λσ η=>∃b73,b73=o74/\σ=[(1,.aA 0 0 0 0),(5,pI (a0.af.length:Int)),(23,pI a0.ai),(103,.bool b73)]/\η=[.row 0 4 1 29 (λ_=>a0.lit)]) ?_ ?_
 refine .d (sE h (λaiB h=>?_) (λaiB h=>?_))
 exact aME
 exact aME
 rintro _ _ ⟨b73,rfl,rfl,rfl⟩
 replace h:=aDm
 refine sV h (λaiC h=>?_) (λaiC h=>?_)
 refine .d (sE h (λUQ h=>?_) (λUQ h=>?_))
 refine ⟨rfl,(.t ⟨rfl,_,rfl,(.t (bk h λx80 Wi h=>⟨bf Wi,_,(aU Wi).trans (ae.aO x80),(.t (.t (bk h λUn UR h=>(b8 (kD UR) (.t (sV h (λah9 h=>?_) (λah9 h=>?_)))))))⟩))⟩)⟩
 refine ⟨rfl,(.t ⟨rfl,_,rfl,(.t (bk h λv85 Hn h=>(b8 (tG _ _ _ Hn) (.t ?_))))⟩)⟩
 exact aLZ
 refine .f (.f (.f ?_))
 exact aLZ
 refine .f (.f (.f (.f (.f (.f (.f (.f (.f ?_))))))))
 exact aLZ
 refine .d (sE h (λUS h=>?_) (λUS h=>?_))
 refine .d (sE h (λaia h=>?_) (λaia h=>?_))
 refine ⟨rfl,(.t ⟨rfl,_,rfl,(.t (bk h λx89 ap9 h=>⟨bf ap9,_,(aU ap9).trans (ae.aO x89),(.t (.t (.t (.t (sE h (λaiD h=>?_) (λaiD h=>?_))))))⟩))⟩)⟩
 refine ⟨rfl,(.t ⟨rfl,_,rfl,(.t (bk h λx92 aqa h=>⟨bf aqa,_,(aU aqa).trans (ae.aO x92),(.t (.t (bk h λv94 aDn h=>(b8 (Cj _ _ aDn) (.t ?_)))))⟩))⟩)⟩
 exact aLZ
 refine .f (.f (.f (.f (.f ?_))))
 exact aLZ
 refine .f (.f (.f (.f (.f (.f (.f (.f (.f (.f (.f (.f ?_)))))))))))
 exact aLZ
 obtain ⟨o97,h,aiE⟩:=bd h
 refine .cut (λσ η=>∃b96,b96=o97/\σ=[(1,.aA 0 0 0 0),(5,pI (a0.af.length:Int)),(23,pI a0.ai),(139,.bool b96)]/\η=[.row 0 4 1 29 (λ_=>a0.lit)]) ?_ ?_
 refine .d (sE h (λaqb h=>?_) (λaqb h=>?_))
 exact aME
 refine .d (sE h (λaqc h=>?_) (λaqc h=>?_))
 exact aME
 exact aME
 rintro _ _ ⟨b96,rfl,rfl,rfl⟩
 replace h:=aiE
 refine sV h (λJp h=>?_) (λJp h=>?_)
 refine .d ⟨rfl,rfl,_,rfl,(bk h λapW aqd h=>(b8 (tG _ _ _ aqd) ?_))⟩
 exact aLZ
 obtain ⟨aDo,h,aqe⟩:=bd h
 refine .cut (λσ η=>∃V0,V0=aDo/\σ=[(1,.aA 0 0 0 0),(5,pI (a0.af.length:Int)),(23,pI a0.ai),(146,.bool V0)]/\η=[.row 0 4 1 29 (λ_=>a0.lit)]) ?_ ?_
 refine .d (sE h (λUW h=>?_) (λUW h=>?_))
 exact aME
 exact aME
 rintro _ _ ⟨V0,rfl,rfl,rfl⟩
 replace h:=aqe
 refine sV h (λaqf h=>?_) (λaqf h=>?_)
 refine .d (sD h (λaqg h=>?_) (λaqg h=>?_))
 refine ⟨rfl,(.t ⟨rfl,_,rfl,(.t (bk h λxt Js h=>(b8 (tG _ _ _ Js) (.t ?_))))⟩)⟩
 exact aLZ
 refine .f (.f (.f ?_))
 exact aLZ
 refine .d (sE h (λJt h=>?_) (λJt h=>?_))
 refine .d ⟨rfl,rfl,_,rfl,(bk h λBj Ck h=>(b8 (ap7 _ _ _ Ck) ?_))⟩
 exact aLZ
 exact aMF
 rintro _ _ ⟨rfl,rfl,rfl⟩
 replace h:=wy
 exact aMI
 intro _ AU a0 a1 r h
 refine ep Tryz.func77 ?_
 refine .d (.d (.d ?_))
 obtain ⟨V1,h,re⟩:=bd h
 refine .cut (λσ η=>.inl ()=V1/\σ=[(0,sl 4 ae.cells a0),(6,pI (bm ((a0.length:Int) - 1)))]/\η=[]) ?_ ?_
 refine .d ?_
 refine le (gn.partial_correctness a0 a1 (motive:=λacZ Ht aqh=>V1=aqh->aK _ _ [(0,sl 4 ae.cells a0),(1,.bool a1),(5,.bool acZ),(6,pI (bm ((a0.length:Int) - 1))),(7,pI Ht)] []) ?_ false 0 V1 h rfl) (tk [] ac6 ⟨⟩)
 intro aI6 Wj acZ Ht aqh h aqi
 subst aqi
 refine aK.round (.d (.d (sD h (λU6 h=>?_) (λU6 h=>?_))))
 refine .d (.d (bk h λwO af2 h=>⟨bf af2,_,(aU af2).trans (ae.aO wO),rfl,_,_,rfl,aj,?_⟩))
 obtain ⟨aDp,h,aqj⟩:=bd h
 refine .cut (λσ η=>∃JH,JH=aDp/\σ=[(0,sl 4 ae.cells a0),(1,.bool a1),(5,.bool JH),(6,pI (bm ((a0.length:Int) - 1))),(7,pI Ht),(8,.aA 0 0 0 0)]/\η=[.row 0 4 1 29 (λ_=>wO.lit)]) ?_ ?_
 refine .d ⟨rfl,rfl,_,rfl,(sE h (λU9 h=>?_) (λU9 h=>?_))⟩
 exact ct ⟨_,si h,rfl,rfl⟩ (tk [0] ⟨.l,.b,.b,.i,.i,.p,⟨⟩⟩ gx)
 exact ct ⟨_,si h,rfl,rfl⟩ (tk [0] ⟨.l,.b,.b,.i,.i,.p,⟨⟩⟩ gx)
 rintro _ _ ⟨JH,rfl,rfl,rfl⟩
 replace h:=aqj
 refine .d ⟨rfl,rfl,_,rfl,(sE h (λJu h=>?_) (λJu h=>?_))⟩
 refine .t (.t (fP h (λaqk h=>?_) (λaqk h=>?_)))
 refine .t (.t (.t (.t (.t (.f ⟨rfl,(.f ⟨rfl,_,rfl,(.f (bk h λapV aql h=>(b8 (rJ aql) (.f (.f (fP h (λaqm h=>?_) (λaqm h=>?_)))))))⟩)⟩)))))
 refine .t (.t (.t (.t (.t (.t (.t (.t (.t (.t (.d ?_))))))))))
 exact aMc
 refine ⟨rfl,(.f ⟨rfl,_,rfl,(.f (bk h λv159 Wk h=>(b8 (fp Wk) (.f (.f (fP h (λaqn h=>?_) (λaqn h=>?_)))))))⟩)⟩
 refine .t (.t (.t (.t (.t (.d ?_)))))
 exact aMc
 refine ⟨rfl,(.f ⟨rfl,_,rfl,(.f (.f (.f (sD h (λVb h=>?_) (λVb h=>?_)))))⟩)⟩
 refine .d ?_
 exact aMc
 exact lg (Wj _ _ _ h rfl) (tk [] ac6 ⟨⟩)
 refine ⟨rfl,(.f ⟨rfl,_,rfl,(.f (.f (sE h (λVc h=>?_) (λVc h=>?_))))⟩)⟩
 refine .f (.t (.f (fP h (λJv h=>?_) (λJv h=>?_))))
 refine .t (.t (.t (.t (.t (.t (.t (.t (.t (.t (.t (.t (.t (.t (.t ?_))))))))))))))
 refine .d ?_
 exact aMc
 refine ⟨rfl,(.f ⟨rfl,_,rfl,(.f (bk h λJn Vd h=>(b8 (rJ Vd) (.f (.f (fP h (λaqo h=>?_) (λaqo h=>?_)))))))⟩)⟩
 refine .t (.t (.t (.t (.t (.t (.t (.t (.t (.t (.d ?_))))))))))
 exact aMc
 refine ⟨rfl,(.f ⟨rfl,_,rfl,(.f (bk h λv168 Wl h=>(b8 (fp Wl) (.f (.f (fP h (λaqp h=>?_) (λaqp h=>?_)))))))⟩)⟩
 refine .t (.t (.t (.t (.t (.d ?_)))))
 exact aMc
 refine ⟨rfl,(.f ⟨rfl,_,rfl,(.f (.f (.f (sD h (λaqq h=>?_) (λaqq h=>?_)))))⟩)⟩
 refine .d ?_
 exact aMc
 exact lg (Wj _ _ _ h rfl) (tk [] ac6 ⟨⟩)
 refine .f (.f (.f (.t (.t (.t (.t (.t (.t (.t (.t (.t (.t (.t (.t ?_))))))))))))))
 refine .t (.t (.t (.t (.d ?_))))
 exact aMc
 refine .f (.f (.f ⟨rfl,(.f ⟨rfl,_,rfl,(.f (.f (sE h (λaqr h=>?_) (λaqr h=>?_))))⟩)⟩))
 refine .f (.t (.f (fP h (λWm h=>?_) (λWm h=>?_))))
 refine .t (.t (.t (.t (.t (.t (.t (.t (.t (.t (.t (.t (.t (.t (.t ?_))))))))))))))
 refine .d ?_
 exact aMc
 refine ⟨rfl,(.f ⟨rfl,_,rfl,(.f (bk h λVY aqs h=>(b8 (rJ aqs) (.f (.f (fP h (λaqt h=>?_) (λaqt h=>?_)))))))⟩)⟩
 refine .t (.t (.t (.t (.t (.t (.t (.t (.t (.t (.d ?_))))))))))
 exact aMc
 refine ⟨rfl,(.f ⟨rfl,_,rfl,(.f (bk h λJI JP h=>(b8 (fp JP) (.f (.f (fP h (λaqu h=>?_) (λaqu h=>?_)))))))⟩)⟩
 refine .t (.t (.t (.t (.t (.d ?_)))))
 exact aMc
 refine ⟨rfl,(.f ⟨rfl,_,rfl,(.f (.f (.f (sD h (λVQ h=>?_) (λVQ h=>?_)))))⟩)⟩
 refine .d ?_
 exact aMc
 exact lg (Wj _ _ _ h rfl) (tk [] ac6 ⟨⟩)
 refine .f (.f (.f (.t (.t (.t (.t (.t (.t (.t (.t (.t (.t (.t (.t ?_))))))))))))))
 refine .t (.t (.t (.t (.d ?_))))
 exact aMc
 exact ct ⟨si h,rfl,rfl⟩ (tk [] ⟨.l,.i,⟨⟩⟩ ⟨⟩)
 rintro _ _ ⟨rfl,rfl,rfl⟩
 replace h:=re
 refine .d (sD h (λaqv h=>?_) (λaqv h=>?_))
 exact .t (.t (bk h λaij af3 h=>⟨bf af3,_,(aU af3).trans (ae.aO aij),(.t (.t (bk h λV2 Wn h=>(b8 (AU _ _ Wn) (.t (eB h))))))⟩))
 exact .f (.f (.f (.f (.f (eB h)))))
 intro _ aqw a0 r h
 refine ep Tryz.func80 ?_
 refine .d (.d (.d ⟨rfl,rfl,_,rfl,(sN h (λaqx h=>?_) (λaqx h=>?_))⟩))
 exact aMU
 refine ⟨rfl,(.f ⟨rfl,_,rfl,(.f (.f (sN h (λaqy h=>?_) (λaqy h=>?_))))⟩)⟩
 exact .t (.t (.t (.t (.d (eB h)))))
 refine ⟨rfl,(.f ⟨rfl,_,rfl,(.f (.f (UJ h (λaqz h=>?_) (λaqz h=>?_))))⟩)⟩
 exact aMI
 obtain ⟨ac1,h,af4⟩:=bd h
 refine .cut (λσ η=>.inl ()=ac1/\σ=[]/\η=[]) ?_ ?_
 refine .d ?_
 have aqA:=aqw _ _ _ h
 refine le (iW.rec (motive:=λaqB tF aqC _=>a0=aqB->ac1=aqC->aK _ _ [(1,.aA 0 0 0 0),(3,pI tF)] [.row 0 4 1 29 (λ_=>a0.lit)]) ?_ aqA rfl rfl) (tk [0] JQ gx)
 intro _ aqD _ _ aqB tF aqC h aqE  ac7 aqF
 subst ac7
 subst aqF
 refine aK.round (.d (.d ⟨rfl,rfl,_,rfl,(sD h (λaqG h=>?_) (λaqG h=>?_))⟩))
 refine .d (.d ⟨rfl,rfl,_,rfl,(bk h λV8 FU h=>⟨bf FU,_,(aU FU).trans (ae.aO V8),(bk h λNn aqH h=>(b8 (aqD _ _ aqH) (fP h (λaqI h=>?_) (λaqI h=>?_))))⟩)⟩)
 refine .d ?_
 obtain rfl:=si h
 replace h:=af4
 exact eB h
 exact lg (aqE _ _ _ h rfl rfl) (tk [0] JQ gx)
 exact aMF
 rintro _ _ ⟨rfl,rfl,rfl⟩
 replace h:=af4
 exact aMI
 intro F0 F1 n8 n9 a0 tF o h
 exact .mk F1 n9 F0 n8 a0 tF o h
 intro _ _ _ _ Cj AU Wo tG a0 r h
 refine ep Tryz.func76 ?_
 refine .d (.d ⟨rfl,_,rfl,?_⟩)
 obtain ⟨⟨apX,JJ⟩,aqJ,h⟩:=bd h
 refine b8 (kC aqJ) (.d ⟨rfl,rfl,_,rfl,(.d (.d (fP h (λVg h=>?_) (λVg h=>?_))))⟩)
 exact .t (.t (.t (.d (eB h))))
 refine .f (.f (fP h (λCc h=>?_) (λCc h=>?_)))
 exact aMI
 obtain ⟨aix,h,gW⟩:=bd h
 refine .cut (λσ η=>.inl ()=aix/\σ=[]/\η=[]) ?_ ?_
 refine .d ⟨rfl,rfl,_,rfl,?_⟩
 obtain ⟨aDq,h,aqK⟩:=bd h
 refine .cut (λσ η=>∃V3,V3=aDq/\σ=[(1,.aA 0 0 0 0),(5,pI (a0.af.length:Int)),(27,pI a0.ai),(28,.bool V3)]/\η=[.row 0 4 1 29 (λ_=>a0.lit)]) ?_ ?_
 refine .d (sE h (λaqL h=>?_) (λaqL h=>?_))
 exact aME
 refine .d (sE h (λaqM h=>?_) (λaqM h=>?_))
 exact aME
 refine .d (sE h (λVh h=>?_) (λVh h=>?_))
 exact aME
 refine .d (sE h (λVi h=>?_) (λVi h=>?_))
 exact aME
 exact aME
 rintro _ _ ⟨V3,rfl,rfl,rfl⟩
 replace h:=aqK
 refine sV h (λaqN h=>?_) (λaqN h=>?_)
 refine .d ?_
 exact aLY
 obtain ⟨aDr,h,aqO⟩:=bd h
 refine .cut (λσ η=>∃V4,V4=aDr/\σ=[(1,.aA 0 0 0 0),(5,pI (a0.af.length:Int)),(27,pI a0.ai),(36,.bool V4)]/\η=[.row 0 4 1 29 (λ_=>a0.lit)]) ?_ ?_
 refine .d (sE h (λWp h=>?_) (λWp h=>?_))
 exact aME
 refine .d (sE h (λVk h=>?_) (λVk h=>?_))
 exact aME
 exact aME
 rintro _ _ ⟨V4,rfl,rfl,rfl⟩
 replace h:=aqO
 refine sV h (λVl h=>?_) (λVl h=>?_)
 refine .d (sE h (λaqP h=>?_) (λaqP h=>?_))
 refine ⟨rfl,(.t ⟨rfl,_,rfl,(.t (bk h λaik af5 h=>⟨bf af5,_,(aU af5).trans (ae.aO aik),(.t (.t (bk h λzM Wq h=>(b8 (Cj _ _ Wq) (.t ?_)))))⟩))⟩)⟩
 exact aLY
 refine .f (.f (.f (.f (.f ?_))))
 exact aLY
 refine .d (sE h (λWr h=>?_) (λWr h=>?_))
 refine .d (sD h (λaqQ h=>?_) (λaqQ h=>?_))
 refine ⟨rfl,(.t ⟨rfl,_,rfl,(.t (bk h λJK Ws h=>(b8 (tG _ _ _ Ws) (.t ?_))))⟩)⟩
 exact aLY
 refine .f (.f (.f ?_))
 exact aLY
 refine .d (sE h (λVn h=>?_) (λVn h=>?_))
 refine .d (sE h (λVo h=>?_) (λVo h=>?_))
 refine ⟨rfl,(.t ⟨rfl,_,rfl,(.t (bk h λail af6 h=>⟨bf af6,_,(aU af6).trans (ae.aO ail),(.t (.t (bk h λapY aqR h=>(b8 (kD aqR) (.t (sV h (λaqS h=>?_) (λaqS h=>?_)))))))⟩))⟩)⟩
 refine ⟨rfl,(.t ⟨rfl,_,rfl,(.t (bk h λaim JR h=>⟨bf JR,_,(aU JR).trans (ae.aO aim),(.t (.t (bk h λUw Vp h=>(b8 (Cj _ _ Vp) (.t ?_)))))⟩))⟩)⟩
 exact aLY
 refine .f (.f (.f (.f (.f ?_))))
 exact aLY
 refine .f (.f (.f (.f (.f (.f (.f (.f (.f (.f (.f ?_))))))))))
 exact aLY
 refine .d (sE h (λVq h=>?_) (λVq h=>?_))
 refine .d (bk h λR7 Wt h=>(b8 (rJ Wt) (sV h (λWu h=>?_) (λWu h=>?_))))
 refine ⟨rfl,(.t ⟨rfl,_,rfl,(.t (bk h λain af7 h=>⟨bf af7,_,(aU af7).trans (ae.aO ain),(.t (.t (bk h λapZ aqT h=>(b8 (Cj _ _ aqT) (.t (sV h (λaqU h=>?_) (λaqU h=>?_)))))))⟩))⟩)⟩
 refine ⟨rfl,(.t ⟨rfl,_,rfl,(.t (bk h λaio af8 h=>⟨bf af8,_,(aU af8).trans (ae.aO aio),(.t (.t (bk h λap0 aqV h=>(b8 (AU _ _ aqV) (.t (sV h (λaqW h=>?_) (λaqW h=>?_)))))))⟩))⟩)⟩
 refine ⟨rfl,(.t ⟨rfl,_,rfl,(.t (.t (.t (bk h λaip af9 h=>⟨bf af9,_,(aU af9).trans (ae.aO aip),(.t (.t (bk h λJL aqX h=>(b8 (AU _ _ aqX) (.t ?_)))))⟩))))⟩)⟩
 exact aLY
 refine .f (.f (.f (.f (.f (.f (.f ?_))))))
 exact aLY
 refine .f (.f (.f (.f (.f (.f (.f (.f (.f (.f (.f (.f (.f ?_))))))))))))
 exact aLY
 refine .f (.f (.f (.f (.f (.f (.f (.f (.f (.f (.f (.f (.f (.f (.f ?_))))))))))))))
 refine .f (.f (.f (.f ?_)))
 exact aLY
 refine .d (sE h (λaqY h=>?_) (λaqY h=>?_))
 refine .d (sE h (λaqZ h=>?_) (λaqZ h=>?_))
 refine ⟨rfl,(.t ⟨rfl,_,rfl,(.t (bk h λaiq aga h=>⟨bf aga,_,(aU aga).trans (ae.aO aiq),(.t (.t (bk h λap1 aq0 h=>(b8 (Cj _ _ aq0) (.t (sV h (λaq1 h=>?_) (λaq1 h=>?_)))))))⟩))⟩)⟩
 refine ⟨rfl,(.t ⟨rfl,_,rfl,(.t (bk h λair agb h=>⟨bf agb,_,(aU agb).trans (ae.aO air),(.t (.t (bk h λap2 aq2 h=>(b8 (AU _ _ aq2) (.t ?_)))))⟩))⟩)⟩
 exact aLY
 refine .f (.f (.f (.f (.f ?_))))
 exact aLY
 refine .f (.f (.f (.f (.f (.f (.f (.f (.f (.f (.f ?_))))))))))
 exact aLY
 refine .d (sE h (λaq3 h=>?_) (λaq3 h=>?_))
 refine .d (bk h λap3 aq4 h=>(b8 (rJ aq4) (sV h (λaq5 h=>?_) (λaq5 h=>?_))))
 refine ⟨rfl,(.t ⟨rfl,_,rfl,(.t (.t (.t (bk h λac2 Wv h=>⟨trivial,Ho Wv,ac2.length,row ae.cells ac2,BS Wv,Hp Wv,(.t (bk h λap4 aq6 h=>(b8 (tG _ _ _ aq6) (.t (sV h (λJx h=>?_) (λJx h=>?_))))))⟩))))⟩)⟩
 refine ⟨rfl,(.t ⟨rfl,_,rfl,(.t (bk h λais FV h=>⟨bf FV,_,(aU FV).trans (ae.aO ais),(.t (.t (.t (.t (sE h (λaq7 h=>?_) (λaq7 h=>?_))))))⟩))⟩)⟩
 refine ⟨rfl,(.t ⟨rfl,_,rfl,(.t (.t (.t (bk h λait agc h=>⟨bf agc,_,(aU agc).trans (ae.aO ait),(.t (.t (.t (.t (sE h (λaq8 h=>?_) (λaq8 h=>?_))))))⟩))))⟩)⟩
 refine ⟨rfl,(.t ⟨rfl,_,rfl,(.t (.t (.t (bk h λaiu agd h=>⟨bf agd,_,(aU agd).trans (ae.aO aiu),(.t (.t (bk h λNk aq9 h=>(b8 (AU _ _ aq9) (.t ?_)))))⟩))))⟩)⟩
 exact aLY
 refine .f (.f (.f (.f (.f (.f (.f ?_))))))
 exact aLY
 refine .f (.f (.f (.f (.f (.f (.f (.f (.f (.f (.f (.f (.f (.f (.f ?_))))))))))))))
 refine .f ?_
 exact aLY
 refine .f (.f (.f (.f (.f (.f (.f (.f (.f (.f (.f (.f (.f (.f (.f ?_))))))))))))))
 refine .f (.f (.f (.f (.f (.f (.f (.f ?_)))))))
 exact aLY
 refine .f (.f (.f (.f (.f (.f (.f (.f (.f (.f (.f (.f (.f (.f (.f ?_))))))))))))))
 refine .f (.f (.f (.f (.f (.f (.f (.f (.f (.f (.f (.f (.f (.f (.f ?_))))))))))))))
 exact aLY
 refine .d (sE h (λara h=>?_) (λara h=>?_))
 refine .d (bk h λUx Vx h=>(b8 (rJ Vx) (sV h (λarb h=>?_) (λarb h=>?_))))
 refine ⟨rfl,(.t ⟨rfl,_,rfl,(.t (bk h λJM arc h=>(b8 (tG _ _ _ arc) (.t (sV h (λard h=>?_) (λard h=>?_))))))⟩)⟩
 refine .t (.t (sE h (λVy h=>?_) (λVy h=>?_)))
 refine .t (.t (.t (.t (.t (.t (.t (.t ?_)))))))
 exact aLY
 refine ⟨rfl,(.f ⟨rfl,_,rfl,(.f (bk h λaiv age h=>⟨bf age,_,(aU age).trans (ae.aO aiv),(.f (.f (.f (.t (.f (.t ?_))))))⟩))⟩)⟩
 exact aLY
 refine .f (.f (.f (.f ?_)))
 exact aLY
 refine .f (.f (.f (.f (.f (.f (.f (.f ?_)))))))
 exact aLY
 refine .d (sE h (λVz h=>?_) (λVz h=>?_))
 refine .d ⟨rfl,_,rfl,(bk h λNl Ww h=>(b8 (AU _ _ Ww) ?_))⟩
 exact aLY
 refine .d (sE h (λarf h=>?_) (λarf h=>?_))
 refine .d (.d (bk h λap5 arh h=>(b8 (rJ arh) (fP h (λari h=>?_) (λari h=>?_)))))
 refine .t (.t (.t (.t (.t (.t (.t (.d ?_)))))))
 exact aLY
 refine ⟨rfl,(.f ⟨rfl,_,rfl,(.f (bk h λaiw agf h=>⟨bf agf,_,(aU agf).trans (ae.aO aiw),(.f (.f (bk h λV5 Wx h=>(b8 (AU _ _ Wx) (.f (.f (fP h (λVB h=>?_) (λVB h=>?_))))))))⟩))⟩)⟩
 refine .d ?_
 exact aLY
 obtain ⟨ac3,h,Qe⟩:=bd h
 refine .cut (λσ η=>.inl ()=ac3/\σ=[]/\η=[]) ?_ ?_
 refine .d ?_
 have Wy:=Wo _ _ _ h
 refine le (jx.rec (motive:=λWz oa WA _=>a0=Wz->ac3=WA->aK _ _ [(1,.aA 0 0 0 0),(5,pI (a0.af.length:Int)),(6,pI oa)] [.row 0 4 1 29 (λ_=>a0.lit)]) ?_ Wy rfl rfl) (tk [0] EO gx)
 intro _ arj _ agh _ _ Wz oa WA h agi  Hv WB
 subst Hv
 subst WB
 refine aK.round (.d (.d (sD h (λVC h=>?_) (λVC h=>?_))))
 refine .d (.d ⟨rfl,rfl,_,rfl,(bk h λoH Jy h=>⟨bf Jy,_,(aU Jy).trans (ae.aO oH),rfl,_,_,rfl,aj,(.d ⟨rfl,_,rfl,?_⟩)⟩)⟩)
 obtain ⟨⟨Hi,u6⟩,WC,h⟩:=bd h
 refine b8 (kC WC) ?_
 obtain ⟨aDs,h,ark⟩:=bd h
 refine .cut (λσ η=>∃JN,JN=aDs/\σ=[(1,.aA 0 0 0 0),(5,pI (a0.af.length:Int)),(6,pI oa),(7,.aA 1 0 0 0),(8,.bool Hi),(9,.bool u6),(10,.bool JN)]/\η=[.row 0 4 1 29 (λ_=>a0.lit),.row 0 4 1 29 (λ_=>oH.lit)]) ?_ ?_
 refine ⟨rfl,rfl,_,rfl,(sE h (λVD h=>?_) (λVD h=>?_))⟩
 refine .t (.t (sE h (λVE h=>?_) (λVE h=>?_)))
 refine ⟨rfl,(.t ⟨rfl,_,rfl,(.t (.t (.t (sE h (λJz h=>?_) (λJz h=>?_)))))⟩)⟩
 refine ⟨rfl,(.t ⟨rfl,_,rfl,(.t (bk h λV9 agj h=>⟨bf agj,_,(aU agj).trans (ae.aO V9),(.t (.t (.t (.t (sE h (λarl h=>?_) (λarl h=>?_))))))⟩))⟩)⟩
 refine ⟨rfl,(.t ⟨rfl,_,rfl,(.t (bk h λWa agk h=>⟨bf agk,_,(aU agk).trans (ae.aO Wa),(.t (.t (bk h λac4 arn h=>(b8 (arj _ _ arn) (.t (sV h (λaro h=>?_) (λaro h=>?_)))))))⟩))⟩)⟩
 exact ⟨rfl,(.t ⟨rfl,_,rfl,(.t (bk h λWb agl h=>⟨bf agl,_,(aU agl).trans (ae.aO Wb),(.t (.t (bk h λxw WD h=>(b8 (agh _ _ WD) (.t (ct ⟨_,si h,rfl,rfl⟩ (tk [0,1] R8 Cl)))))))⟩))⟩)⟩
 exact .f (.f (.f (.f (.f (ct ⟨_,si h,rfl,rfl⟩ (tk [0,1] R8 Cl))))))
 exact .f (.f (.f (.f (.f (.f (.f (.f (.f (.f (.f (ct ⟨_,si h,rfl,rfl⟩ (tk [0,1] R8 Cl))))))))))))
 refine .f (.f (.f (.f (.f (.f (.f (.f (.f (.f (.f (.f (.f (.f (.f ?_))))))))))))))
 exact .f (.f (.f (ct ⟨_,si h,rfl,rfl⟩ (tk [0,1] R8 Cl))))
 refine .f (.f (.f (.f (.f (.f (.f (.f (.f (.f (.f (.f (.f (.f (.f ?_))))))))))))))
 exact .f (.f (.f (.f (.f (.f (.f (.f (ct ⟨_,si h,rfl,rfl⟩ (tk [0,1] R8 Cl)))))))))
 refine .f (.f (.f (.f (.f (.f (.f (.f (.f (.f (.f (.f (.f (.f (.f ?_))))))))))))))
 exact .f (.f (.f (.f (.f (.f (.f (.f (.f (.f (.f (ct ⟨_,si h,rfl,rfl⟩ (tk [0,1] R8 Cl))))))))))))
 rintro _ _ ⟨JN,rfl,rfl,rfl⟩
 replace h:=ark
 obtain ⟨aDt,h,arp⟩:=bd h
 refine .cut (λσ η=>∃Np,Np=aDt/\σ=[(1,.aA 0 0 0 0),(5,pI (a0.af.length:Int)),(6,pI oa),(8,.bool Hi),(9,.bool u6),(10,.bool JN),(11,.bool Np)]/\η=[.row 0 4 1 29 (λ_=>a0.lit)]) ?_ ?_
 refine ⟨rfl,rfl,_,rfl,(sE h (λarq h=>?_) (λarq h=>?_))⟩
 refine .t (.t (.t (.t (sE h (λars h=>?_) (λars h=>?_)))))
 refine ⟨rfl,(.t ⟨rfl,_,rfl,(.t (.t (.t (sE h (λVF h=>?_) (λVF h=>?_)))))⟩)⟩
 exact ⟨rfl,(.t ⟨rfl,_,rfl,(.t (bk h λWc agm h=>⟨bf agm,_,(aU agm).trans (ae.aO Wc),(.t (.t (bk h λac5 art h=>(b8 (agh _ _ art) (.t (ct ⟨_,si h,rfl,rfl⟩ (tk [0] ac8 gx)))))))⟩))⟩)⟩
 exact .f (.f (.f (.f (.f (ct ⟨_,si h,rfl,rfl⟩ (tk [0] ac8 gx))))))
 exact .f (.f (.f (.f (.f (.f (.f (.f (.f (.f (ct ⟨_,si h,rfl,rfl⟩ (tk [0] ac8 gx)))))))))))
 refine .f (.f (.f (.f (.f (.f (.f (.f (.f (.f (.f (.f (.f (.f (.f ?_))))))))))))))
 exact ct ⟨_,si h,rfl,rfl⟩ (tk [0] ac8 gx)
 rintro _ _ ⟨Np,rfl,rfl,rfl⟩
 replace h:=arp
 refine .d (fP h (λaru h=>?_) (λaru h=>?_))
 refine .t (.t (.t (.t (.t (.t (.t (.t (.d ?_))))))))
 obtain rfl:=si h
 replace h:=Qe
 exact aLY
 refine .f (.f (fP h (λVG h=>?_) (λVG h=>?_)))
 refine .t (.t (.t (.t (.t (.d ?_)))))
 obtain rfl:=si h
 replace h:=Qe
 exact aLY
 refine .f (.f (fP h (λVH h=>?_) (λVH h=>?_)))
 refine .t (.f (.t (.f (fP h (λarv h=>?_) (λarv h=>?_)))))
 refine .d ?_
 obtain rfl:=si h
 replace h:=Qe
 exact aLY
 exact lg (agi _ _ _ h rfl rfl) (tk [0] EO gx)
 exact .f (.f (.f (.f (.f (lg (agi _ _ _ h rfl rfl) (tk [0] EO gx))))))
 exact aMF
 rintro _ _ ⟨rfl,rfl,rfl⟩
 replace h:=Qe
 refine .d ?_
 exact aLY
 exact aMF
 rintro _ _ ⟨rfl,rfl,rfl⟩
 replace h:=gW
 exact aMI
 intro F0 F1 F2 n8 n9 hF2 a0 oa o h
 exact .mk F0 n8 F1 n9 F2 hF2 a0 oa o h
 intro _ arw a0 a1 r h
 refine ep Tryz.func149 ?_
 refine .d ?_
 obtain ⟨ac0,h,agn⟩:=bd h
 refine .cut (λσ η=>.inl ()=ac0/\σ=[]/\η=[]) ?_ ?_
 refine .d ?_
 have arx:=arw _ _ _ h
 refine le (jw.rec (motive:=λary tE arz _=>a0=ary->ac0=arz->aK _ _ [(0,sl 4 ae.cells a0),(5,pI tE)] []) ?_ arx rfl rfl) (tk [] ⟨.l,.i,⟨⟩⟩ ⟨⟩)
 intro _ arA _ _ ary tE arz h arB  ac9 arC
 subst ac9
 subst arC
 refine aK.round (.d (.d (sD h (λU0 h=>?_) (λU0 h=>?_))))
 refine .d (.d (bk h λV7 ago h=>⟨bf ago,_,(aU ago).trans (ae.aO V7),(bk h λv131 arD h=>(b8 (arA _ _ arD) (fP h (λU2 h=>?_) (λU2 h=>?_))))⟩))
 refine .d ?_
 obtain rfl:=si h
 replace h:=agn
 exact eB h
 exact lg (arB _ _ _ h rfl rfl) (tk [] ⟨.l,.i,⟨⟩⟩ ⟨⟩)
 exact aMF
 rintro _ _ ⟨rfl,rfl,rfl⟩
 replace h:=agn
 exact aMI
 intro F0 F1 n8 n9 a0 tE o h
 exact .mk F0 n8 F1 n9 a0 tE o h
 intro F0 F1 n8 n9 a0 nO o h
 exact .mk F0 n8 F1 n9 a0 nO o h
theorem Hw {a0:ae} {r:Bool} (h:bD a0=some r):Hk 79 a0 r:=qe.1 a0 r h
theorem yG {a0:List ae} {a1:Bool} {r:Bool} (h:jS a0 a1=some r):sg9 77 a0 a1 r:=qe.2.1 a0 a1 r h
theorem Hx {a0:ae} {r:Bool} (h:dS a0=some r):Hk 76 a0 r:=qe.2.2.2.2.1 a0 r h
def ke (a0:ae) (y4:Int) (y5:Int):Option iD:=
 (if y5<(a0.af.length:Int) then
 idx a0.af y5>>=λx9=>
 eD x9>>=λ(v11,v12)=>
 (
 (if x9.ai=52 then
 (if y5=0 then
 (if a0.ai=50 then
 some (0,((x9.af.length:Int)==0))
 else
 some (0,false))
 else
 some (0,false))
 else
 (if x9.ai=53 then
 some (1,((x9.af.length:Int)==0))
 else
 (if x9.ai=54 then
 (if (x9.af.length:Int)=1 then
 idx x9.af 0>>=λyC=>
 yn yC.ai 1 3>>=λzy=>
 (if zy=true then
 idx x9.af 0>>=λEN=>
 bD EN>>=λzN=>
 some (2,zN)
 else
 some (2,false))
 else
 some (2,false))
 else
 (if x9.ai=55 then
 jS x9.af false>>=λV6=>
 some (2,V6)
 else
 some (2,false)))))
 :Option (Int×Bool))>>=λ(y14,b15)=>
 (if v11=true then
 (if v12=true then
 (if b15=true then
 (if y14<y4 then
 some (.inr false)
 else
 ke a0 y14 (bm (y5+1)))
 else
 some (.inr false))
 else
 some (.inr false))
 else
 some (.inr false))
 else
 some (.inl ()))
partial_fixpoint
def lx (a0:ae):Option (Bool):=
 ((
 ke a0 0 0
 :Option iD)>>=λo1=>match o1 with
 | .inr r=>some r
 | .inl _=>
 some true
 )
theorem w5 {a0:ae} {r:Bool} (h:lx a0=some r):Hk 78 a0 r:=by
 refine ep Tryz.func78 ?_
 unfold lx at h
 refine .d (.d ?_)
 obtain ⟨o1,h,fD⟩:=bd h
 refine .cut (λσ η=>.inl ()=o1/\σ=[]/\η=[]) ?_ ?_
 refine .d ?_
 refine le (ke.partial_correctness a0 (motive:=λy4 y5 o41=>o1=o41->aK _ _ [(1,.aA 0 0 0 0),(3,pI y4),(4,pI y5)] [.row 0 4 1 29 (λ_=>a0.lit)]) ?_ 0 0 o1 h rfl) (tk [0] EO gx)
 intro F7 FX y4 y5 o41 h aiA
 subst aiA
 refine aK.round (.d (.d ⟨rfl,rfl,_,rfl,(sD h (λFT h=>?_) (λFT h=>?_))⟩))
 refine .d (.d ⟨rfl,rfl,_,rfl,(bk h λx9 u7 h=>⟨bf u7,_,(aU u7).trans (ae.aO x9),rfl,_,_,rfl,aj,(.d ⟨rfl,_,rfl,?_⟩)⟩)⟩)
 obtain ⟨⟨v11,v12⟩,EI,h⟩:=bd h
 refine b8 (kC EI) (.d (.d ?_))
 obtain ⟨Qf,h,aiF⟩:=bd h
 refine .cut (λσ η=>∃y14,∃b15,(y14,b15)=Qf/\σ=[(1,.aA 0 0 0 0),(3,pI y4),(4,pI y5),(6,.bool v11),(7,.bool v12),(8,pI y14),(9,.bool b15)]/\η=[.row 0 4 1 29 (λ_=>a0.lit)]) ?_ ?_
 refine .d ⟨rfl,rfl,_,rfl,(.d (sE h (λzO h=>?_) (λzO h=>?_)))⟩
 refine .d (sE h (λyB h=>?_) (λyB h=>?_))
 refine ⟨rfl,(.t ⟨rfl,_,rfl,(.t (.t (sE h (λEM h=>?_) (λEM h=>?_))))⟩)⟩
 exact ⟨rfl,(.t ⟨rfl,_,rfl,(.t (.t (.t (ct ⟨_,_,si h,rfl,rfl⟩ (tk [0] Hy gx)))))⟩)⟩
 exact .f (.f (.f (.f (ct ⟨_,_,si h,rfl,rfl⟩ (tk [0] Hy gx)))))
 exact .f (.f (.f (.f (.f (.f (.f (.f (ct ⟨_,_,si h,rfl,rfl⟩ (tk [0] Hy gx)))))))))
 refine .d (sE h (λyH h=>?_) (λyH h=>?_))
 exact .d ⟨rfl,rfl,_,rfl,(ct ⟨_,_,si h,rfl,rfl⟩ (tk [0] Hy gx))⟩
 refine .d (sE h (λsr h=>?_) (λsr h=>?_))
 refine ⟨rfl,rfl,_,rfl,(sE h (λJD h=>?_) (λJD h=>?_))⟩
 refine ⟨rfl,(.t ⟨rfl,_,rfl,(.t (bk h λyC Bi h=>⟨bf Bi,_,(aU Bi).trans (ae.aO yC),(.t (.t (.t (bk h λzy Nd h=>(b8 (rJ Nd) (.t (sV h (λzK h=>?_) (λzK h=>?_))))))))⟩))⟩)⟩
 exact ⟨rfl,(.t ⟨rfl,_,rfl,(.t (bk h λEN tH h=>⟨bf tH,_,(aU tH).trans (ae.aO EN),(.t (.t (bk h λzN WE h=>(b8 (Hw WE) (.t (ct ⟨_,_,si h,rfl,rfl⟩ (tk [0] Hy gx)))))))⟩))⟩)⟩
 exact .f (.f (.f (.f (.f (ct ⟨_,_,si h,rfl,rfl⟩ (tk [0] Hy gx))))))
 exact .f (.f (.f (.f (.f (.f (.f (.f (.f (.f (.f (.f (ct ⟨_,_,si h,rfl,rfl⟩ (tk [0] Hy gx)))))))))))))
 refine .d (sE h (λzH h=>?_) (λzH h=>?_))
 exact ⟨rfl,rfl,_,rfl,(bk h λV6 Wf h=>(b8 (yG Wf) (ct ⟨_,_,si h,rfl,rfl⟩ (tk [0] Hy gx))))⟩
 exact ct ⟨_,_,si h,rfl,rfl⟩ (tk [0] Hy gx)
 rintro _ _ ⟨y14,b15,rfl,rfl,rfl⟩
 replace h:=aiF
 refine .d (.d (fP h (λzI h=>?_) (λzI h=>?_)))
 refine .t (.t (.t (.t (.t (.t (.t (.t (.t (.t (.d ?_))))))))))
 exact aLW
 refine .f (.f (fP h (λzJ h=>?_) (λzJ h=>?_)))
 refine .t (.t (.t (.t (.t (.t (.t (.d ?_)))))))
 exact aLW
 refine .f (.f (fP h (λCb h=>?_) (λCb h=>?_)))
 refine .t (.t (.t (.t (.d ?_))))
 exact aLW
 refine .f (.f (.f (sD h (λNf h=>?_) (λNf h=>?_))))
 refine .d ?_
 exact aLW
 exact lg (FX _ _ _ h rfl) (tk [0] EO gx)
 exact aMF
 exact aMm
def fG (a0:ae) (qP:Int):Option iD:=
 (if qP<(a0.af.length:Int) then
 idx a0.af qP>>=λEK=>
 eD EK>>=λ(qV,AV)=>
 dS EK>>=λnL=>
 (if EK.ai=49 then
 (if qV=true then
 (if AV=true then
 jS EK.af false>>=λv24=>
 (if v24=true then
 fG a0 (bm (qP+1))
 else
 some (.inr false))
 else
 some (.inr false))
 else
 some (.inr false))
 else
 (if EK.ai=50 then
 (if qV=true then
 (if AV=true then
 lx EK>>=λv30=>
 (if v30=true then
 fG a0 (bm (qP+1))
 else
 some (.inr false))
 else
 some (.inr false))
 else
 some (.inr false))
 else
 (if EK.ai=51 then
 (if qV=true then
 (if AV=true then
 lx EK>>=λR9=>
 (if R9=true then
 fG a0 (bm (qP+1))
 else
 some (.inr false))
 else
 some (.inr false))
 else
 some (.inr false))
 else
 (if nL=true then
 fG a0 (bm (qP+1))
 else
 some (.inr false)))))
 else
 some (.inl ()))
partial_fixpoint
def mR (a0:ae):Option (Bool):=
 mS a0>>=λv1=>
 (if v1=true then
 (if a0.ai=56 then
 (if a0.aE=0 then
 (if a0.aq=([]:aD) then
 ((
 fG a0 0
 :Option iD)>>=λo7=>match o7 with
 | .inr r=>some r
 | .inl _=>
 some true
 )
 else
 some false)
 else
 some false)
 else
 some false)
 else
 some false)
theorem EP {a0:ae} {r:Bool} (h:mR a0=some r):Hk 34 a0 r:=by
 refine ep Tryz.func34 ?_
 unfold mR at h
 refine .d (.d (.d ⟨rfl,_,rfl,(bk h λv1 tu h=>(b8 (ER tu) (fP h (λzA h=>?_) (λzA h=>?_))))⟩))
 exact .t (.t (.t (.t (.t (.t (.t (.t (.t (.t (.t (.t (.d (eB h)))))))))))))
 refine ⟨rfl,(.f ⟨rfl,_,rfl,(.f (.f (sN h (λuX h=>?_) (λuX h=>?_))))⟩)⟩
 exact aMU
 refine ⟨rfl,(.f ⟨rfl,_,rfl,(.f (.f (sN h (λAK h=>?_) (λAK h=>?_))))⟩)⟩
 exact .t (.t (.t (.t (.d (eB h)))))
 refine ⟨rfl,(.f ⟨rfl,_,rfl,(.f (.f (UJ h (λBR h=>?_) (λBR h=>?_))))⟩)⟩
 exact aMI
 obtain ⟨o7,h,JG⟩:=bd h
 refine .cut (λσ η=>.inl ()=o7/\σ=[]/\η=[]) ?_ ?_
 refine .d ?_
 refine le (fG.partial_correctness a0 (motive:=λqP o40=>o7=o40->aK _ _ [(1,.aA 0 0 0 0),(3,pI qP)] [.row 0 4 1 29 (λ_=>a0.lit)]) ?_ 0 o7 h rfl) (tk [0] JQ gx)
 intro F12 Nj qP o40 h aDu
 subst aDu
 refine aK.round (.d (.d ⟨rfl,rfl,_,rfl,(sD h (λsj h=>?_) (λsj h=>?_))⟩))
 refine .d (.d ⟨rfl,rfl,_,rfl,(bk h λEK yE h=>⟨bf yE,_,(aU yE).trans (ae.aO EK),rfl,_,_,rfl,aj,(.d ⟨rfl,_,rfl,?_⟩)⟩)⟩)
 obtain ⟨⟨qV,AV⟩,WG,h⟩:=bd h
 refine b8 (kC WG) (.d ⟨rfl,_,rfl,(bk h λnL VX h=>(b8 (Hx VX) (.d (.d ⟨rfl,rfl,_,rfl,(.d (sE h (λEM h=>?_) (λEM h=>?_)))⟩))))⟩)
 refine sV h (λyH h=>?_) (λyH h=>?_)
 refine .t (sV h (λsr h=>?_) (λsr h=>?_))
 refine ⟨rfl,(.t ⟨rfl,_,rfl,(.t (bk h λv24 Nt h=>(b8 (yG Nt) (.t (.d (fP h (λwP h=>?_) (λwP h=>?_)))))))⟩)⟩
 refine .d ?_
 exact aMd
 exact aMV
 refine .f (.f (.f (.d (.t (.d ?_)))))
 exact aMd
 refine .f (.f (.f (.f (.f (.d (.t (.d ?_)))))))
 exact aMd
 refine .d (.d (sE h (λHz h=>?_) (λHz h=>?_)))
 refine .kt Hz (sV h (λHA h=>?_) (λHA h=>?_))
 refine .t (sV h (λzK h=>?_) (λzK h=>?_))
 refine ⟨rfl,_,rfl,(.t (bk h λv30 WH h=>(b8 (w5 WH) (.t (.d (fP h (λCe h=>?_) (λCe h=>?_)))))))⟩
 refine .d ?_
 exact aMd
 exact aMV
 refine .f (.f (.d (.t (.d ?_))))
 exact aMd
 refine .f (.f (.f (.f (.d (.t (.d ?_))))))
 exact aMd
 refine sE h (λHs h=>?_) (λHs h=>?_)
 refine sV h (λzH h=>?_) (λzH h=>?_)
 refine .t (sV h (λCf h=>?_) (λCf h=>?_))
 refine ⟨rfl,_,rfl,(.t (bk h λR9 WI h=>(b8 (w5 WI) (.t (.d (fP h (λzJ h=>?_) (λzJ h=>?_)))))))⟩
 refine .d ?_
 exact aMd
 exact aMV
 refine .f (.f (.d (.t (.d ?_))))
 exact aMd
 refine .f (.f (.f (.f (.d (.t (.d ?_))))))
 exact aMd
 refine .d (fP h (λCb h=>?_) (λCb h=>?_))
 refine .d ?_
 exact aMd
 exact aMV
 exact aMF
 rintro _ _ ⟨rfl,rfl,rfl⟩
 replace h:=JG
 exact aMI
set_option maxRecDepth 100000
theorem sb {α β:Type} (a:α) (f:α->Option β):(some a>>=f)=f a:=rfl
theorem eE {s:aD} {i:Nat} (h:i<s.length):gz s (i:Int)=some (s.getD i 0):=by
 unfold gz;rw [if_pos ⟨by omega,by omega⟩];rfl
theorem eu {α:Type} [Inhabited α] {l:List α} {i:Nat} (h:i<l.length):idx l (i:Int)=some l[i]:=by
 unfold idx;rw [if_pos ⟨by omega,by omega⟩]
 simp [aKb,h]
theorem kE {x:Int} {n:Nat} (h:x=(n:Int)) (hn:n<=9223372036854775807):bm x=(n:Int):=by
 subst h;exact WJ aNc aNc
theorem bN {i:Nat} (h:i<9223372036854775807):bm ((i:Int)+1)=((i+1:Nat):Int):=kE aNc aNc
theorem jX {α:Type} {b:Nat} {l m:List α} (h:(l.length+m.length)*b<=140737488355328):cC b l m=some (l++m):=if_pos h
theorem ss (a b c:Int):Mz a b c=some (decide (b<=a/\a<=c)):=by
 unfold Mz
 by_cases h:b<=a
 ·rw [if_pos h];congr 1;simp;omega
 ·rw [if_neg h];congr 1;symm;rw [decide_eq_false_iff_not];omega
theorem rf (a b c:Int):yn a b c=some (decide (b<=a/\a<=c)):=by
 unfold yn
 by_cases h:a>=b
 ·rw [if_pos h];congr 1;simp;omega
 ·rw [if_neg h];congr 1;symm;rw [decide_eq_false_iff_not];omega
def isLet (b:UInt8):Bool:=decide (65<=b.toNat/\b.toNat<=90)||decide (97<=b.toNat/\b.toNat<=122)
def pE (b:UInt8):Bool:=decide (48<=b.toNat/\b.toNat<=57)
theorem Nu (b:UInt8):mT (b.toNat:Int)=some (isLet b):=by
 unfold mT isLet
 by_cases h:(b.toNat:Int)>=65
 ·rw [if_pos h]
  by_cases h2:(b.toNat:Int)<=90
  ·rw [if_pos h2];congr 1;symm;simp;omega
  ·rw [if_neg h2]
   by_cases h3:(b.toNat:Int)>=97
   ·rw [if_pos h3];congr 1;rw [aLv];simp;omega
   ·rw [if_neg h3];congr 1;symm;simp;omega
 ·rw [if_neg h,if_neg aNc];congr 1;symm;simp;omega
theorem HC (b:UInt8):kG (b.toNat:Int)=some (pE b):=by
 unfold kG pE
 by_cases h:(b.toNat:Int)>=48
 ·rw [if_pos h];congr 1;rw [aLv];simp;omega
 ·rw [if_neg h];congr 1;symm;simp;omega
theorem wb (b:UInt8):bm (b.toNat:Int)=(b.toNat:Int):=by
 have:=b.toNat_lt
 exact WJ aNc aNc
theorem BT (b:UInt8):kn (b.toNat:Int)=some (isLet b||decide (b.toNat=95)):=by
 unfold kn isLet
 rw [wb,rf,sb]
 by_cases h:(97:Int)<=(b.toNat:Int)/\(b.toNat:Int)<=122
 ·rw [if_pos aNl];congr 1;symm;simp;omega
 ·rw [if_neg aNl,rf,sb]
  by_cases h2:(65:Int)<=(b.toNat:Int)/\(b.toNat:Int)<=90
  ·rw [if_pos aNl];congr 1;symm;simp;omega
  ·rw [if_neg aNl];congr 1;rw [aLv];simp;omega
theorem BU (b:UInt8):jY (b.toNat:Int)=some (pE b):=by
 unfold jY pE
 rw [wb,rf,sb]
 congr 1;rw [aLv];simp;omega
def u9 (s:aD):Nat->Nat->Nat
 | 0,i=>i
 | f+1,i=>if i<s.length then (if isLet (s.getD i 0)||decide ((s.getD i 0).toNat=95)||(decide (0<i)&&pE (s.getD i 0)) then u9 s f (i+1) else i) else i
theorem JT (s:aD) (hs:s.length<9223372036854775807):∀(f i:Nat),s.length<=i+f->i<=s.length->cK s (i:Int)=some ((u9 s (f+1) i:Nat):Int)
 | f,i,h,hi=>by
  rw [cK,u9]
  by_cases hc:i<s.length
  ·rw [if_pos aNc,if_pos hc,eE hc,sb,Nu,sb,bN aNc]
   obtain ⟨g,rfl⟩:∃g,f=g+1:=⟨f - 1,by omega⟩
   have ih:=JT s hs g (i+1) aNc aNc
   cases hl:isLet (s.getD i 0)
   ·rw [if_neg aNf,sb]
    by_cases h5:(s.getD i 0).toNat=95
    ·rw [if_pos aNc,ih,if_pos (by simp only [h5,eq_self,decide_true,aLa,aLb])]
    ·rw [if_neg aNc]
     by_cases h0:0<i
     ·rw [if_pos aNc,sb,HC,sb]
      cases hd:pE (s.getD i 0)
      ·rw [if_neg aNf,if_neg (by simp only [h5,decide_false,aKD,aKx,aKu];simp)]
      ·rw [if_pos rfl,ih,if_pos (by simp only [h0,decide_true,aLc,aLa])]
     ·rw [if_neg aNc,if_neg (by simp only [h5,h0,decide_false,aLn,aKD];simp)]
   ·rw [if_pos rfl,ih,if_pos aNf]
  ·rw [if_neg aNc,if_neg hc]
theorem JU (s:aD) (hs:s.length<9223372036854775807):∀(f i:Nat),s.length<=i+f->i<=s.length->eF s 0 (i:Int)=some ((u9 s (f+1) i:Nat):Int)
 | f,i,h,hi=>by
  rw [eF,u9]
  by_cases hc:i<s.length
  ·rw [if_pos aNc,if_pos hc,eE hc,sb,BT,sb,bN aNc]
   obtain ⟨g,rfl⟩:∃g,f=g+1:=⟨f - 1,by omega⟩
   have ih:=JU s hs g (i+1) aNc aNc
   cases hl:(isLet (s.getD i 0)||decide ((s.getD i 0).toNat=95))
   ·rw [if_neg aNf]
    by_cases h0:0<i
    ·rw [if_pos aNc,sb,BU,sb]
     cases hd:pE (s.getD i 0)
     ·rw [if_neg aNf,if_neg aNf]
     ·rw [if_pos rfl,ih,if_pos (by simp [h0])]
    ·rw [if_neg aNc,if_neg (by simp [h0])]
   ·rw [if_pos rfl,ih,if_pos aNf]
  ·rw [if_neg aNc,if_neg hc]
theorem Sa (s:aD):∃b,oh s=some b/\qf s=some b:=by
 unfold oh qf
 by_cases h:s.length<=20
 ·rw [if_pos aNc]
  have e1:dT s=some ((u9 s (s.length+1) 0:Nat):Int):=by
   unfold dT
   have:=JT s aNc s.length 0 aNc aNc
   rw [show ((0:Nat):Int)=0 from rfl] at this
   rw [this,sb]
  have e2:iX s 0=some ((u9 s (s.length+1) 0:Nat):Int):=by
   unfold iX
   have:=JU s aNc s.length 0 aNc aNc
   rw [show ((0:Nat):Int)=0 from rfl] at this
   rw [this,sb]
  rw [e1,sb,e2]
  cases s with
  | nil=>exact ⟨_,rfl,rfl⟩
  | cons c r=>
   rw [if_pos (show ((c::r).length:Int)>=1 by simp;omega),if_pos (show ((c::r).length:Int)<=20 by omega),sb]
   by_cases he:u9 (c::r) ((c::r).length+1) 0=(c::r).length
   ·rw [if_pos aNc]
    refine ⟨_,rfl,?_⟩
    congr 1
    simp only [beq_iff_eq,he]
    simp
   ·rw [if_neg aNc]
    refine ⟨_,rfl,?_⟩
    congr 1
    rw [beq_eq_false_iff_ne]
    omega
 ·rw [if_neg aNc]
  refine ⟨_,rfl,?_⟩
  rw [if_pos aNc,if_neg aNc]
def Bk:List aD:=[[101,99,104,111],[105,102],[101,108,115,101],[119,104,105,108,101],[102,111,114,101,97,99,104],[97,115],[98,114,101,97,107],[99,111,110,116,105,110,117,101],[114,101,116,117,114,110],[103,108,111,98,97,108],[117,110,115,101,116],[116,104,114,111,119],[116,114,121],[99,97,116,99,104],[102,105,110,97,108,108,121],[121,105,101,108,100],[105,110,99,108,117,100,101],[102,117,110,99,116,105,111,110],[99,108,97,115,115],[116,114,97,105,116],[101,120,116,101,110,100,115],[117,115,101],[112,114,105,118,97,116,101],[115,116,97,116,105,99],[110,101,119],[116,114,117,101],[102,97,108,115,101],[110,117,108,108]]
theorem Qg (s:aD):∀(f k:Nat),Bk.length<=k+f->iY s (k:Int)=some (if (Bk.drop k).any (λx=>decide (s=x)) then .inr true else .inl ())
 | f,k,h=>by
  rw [iY]
  change (if (k:Int)<(Bk.length:Int) then idx Bk (k:Int)>>=_ else _)=_
  by_cases hc:k<Bk.length
  ·have hl:Bk.length=28:=rfl
   rw [if_pos aNc,eu hc,sb,bN aNc,aKg hc,List.any_cons]
   by_cases he:Bk[k]=s
   ·rw [if_pos he,if_pos (by rw [<-he];simp)]
   ·obtain ⟨g,rfl⟩:∃g,f=g+1:=⟨f - 1,by omega⟩
    rw [if_neg he,Qg s g (k+1) aNc,decide_eq_false (λh=>he h.symm),aKu]
  ·rw [if_neg aNc,aKa aNc];rfl
theorem dQ {s x:aD} {b:Bool} {z:Option Bool} (h:z=some b):(if s=x then some true else z)=some (decide (s=x)||b):=by
 subst h
 by_cases h:s=x
 ·rw [if_pos h,decide_eq_true h,aLb]
 ·rw [if_neg h,decide_eq_false h,aKu]
theorem ada (s:aD):kH s=some (Bk.any λx=>decide (s=x)):=by
 unfold kH
 have:=Qg s Bk.length 0 aNc
 rw [show ((0:Nat):Int)=0 from rfl,aKh] at this
 rw [this,sb]
 cases hc:Bk.any (λx=>decide (s=x))
 ·rfl
 ·rfl
theorem adb (s:aD):kI s=some (Bk.any λx=>decide (s=x)):=by
 have e:Bk.any (λx=>decide (s=x))=(decide (s=([101,99,104,111]:aD))||(decide (s=([105,102]:aD))||(decide (s=([101,108,115,101]:aD))||(decide (s=([119,104,105,108,101]:aD))||(decide (s=([102,111,114,101,97,99,104]:aD))||(decide (s=([97,115]:aD))||(decide (s=([98,114,101,97,107]:aD))||(decide (s=([99,111,110,116,105,110,117,101]:aD))||(decide (s=([114,101,116,117,114,110]:aD))||(decide (s=([103,108,111,98,97,108]:aD))||(decide (s=([117,110,115,101,116]:aD))||(decide (s=([116,104,114,111,119]:aD))||(decide (s=([116,114,121]:aD))||(decide (s=([99,97,116,99,104]:aD))||(decide (s=([102,105,110,97,108,108,121]:aD))||(decide (s=([121,105,101,108,100]:aD))||(decide (s=([105,110,99,108,117,100,101]:aD))||(decide (s=([102,117,110,99,116,105,111,110]:aD))||(decide (s=([99,108,97,115,115]:aD))||(decide (s=([116,114,97,105,116]:aD))||(decide (s=([101,120,116,101,110,100,115]:aD))||(decide (s=([117,115,101]:aD))||(decide (s=([112,114,105,118,97,116,101]:aD))||(decide (s=([115,116,97,116,105,99]:aD))||(decide (s=([110,101,119]:aD))||(decide (s=([116,114,117,101]:aD))||(decide (s=([102,97,108,115,101]:aD))||(decide (s=([110,117,108,108]:aD))||false)))))))))))))))))))))))))))):=rfl
 rw [e]
 unfold kI
 exact (dQ (dQ (dQ (dQ (dQ (dQ (dQ (dQ (dQ (dQ (dQ (dQ (dQ (dQ (dQ (dQ (dQ (dQ (dQ (dQ (dQ (dQ (dQ (dQ (dQ (dQ (dQ (dQ rfl))))))))))))))))))))))))))))
theorem Qh (s:aD):∃b,bC s=some b/\dH s=some b:=by
 obtain ⟨b,h1,h2⟩:=Sa s
 unfold bC dH
 rw [h1,h2,sb,sb,adb,ada]
 cases b
 ·exact ⟨_,rfl,rfl⟩
 ·exact ⟨_,rfl,rfl⟩
def good (s:aD):Bool:=(bC s).getD false
theorem su (s:aD):bC s=some (good s):=by obtain ⟨v,h,_⟩:=Qh s;rw [good,h];rfl
theorem Qi (s:aD):dH s=some (good s):=by obtain ⟨v,h,h2⟩:=Qh s;rw [good,h,h2];rfl
def q1 (b:UInt8):List UInt8:=if b.toNat=39\/b.toNat=92 then [92,b] else [b]
end Go.Am
