/- Texts of the proof, joined and shortened. -/
import Derived.Test.YtiigfbapjeefbaaGreatDoorPk2
set_option linter.unusedVariables false
set_option linter.unusedSimpArgs false
namespace Go.Am
open Go Go.RowKit
section
variable {P:Program} {T:qq} {μ:Mu} {h η:List al} {k:List Nat} {S:Nat->Prop} {w:World} {C:Start} {env:Env} {a:Act}
theorem pg.agree (hs:pg C μ h S env a w) {w':World} (ha:c7 w w'):pg C μ h S env a w':=
 ⟨⟨hs.core.heap.agree ha hs.core.ok,hs.core.ok.agree ha⟩,hs.fr.trans (Fr.sf ha),λt=>(hs.tmps t).fr (Fr.sf ha) hs.core.ok,hs.size,hs.far,hs.defers⟩
theorem D9 {pv:PV} {v:Value} {w w':World} {μ μ':Mu} {h h':List al} {S S':Nat->Prop} (hs:yv pv=true) (hv:cj μ h S w pv v):cj μ' h' S' w' pv v/\∀v':Value,cj μ' h' S' w' pv v'->v'=v:=by
 cases pv with
 | int k n=>obtain rfl:=hv.mh;exact ⟨ba.int _ _,λv' h'=>h'.mh⟩
 | bool b=>obtain rfl:=hv.ns;exact ⟨ba.bool _,λv' h'=>h'.ns⟩
 | str s=>obtain rfl:=hv.oF;exact ⟨ba.str _,λv' h'=>h'.oF⟩
 | ck=>obtain rfl:=hv.qt;exact ⟨ba.ck,λv' h'=>h'.qt⟩
 | _=>cases hs
def GV:PV->Value
 | .int k n=>.int k n
 | .bool b=>.bool b
 | .str s=>.string ⟨⟨s⟩⟩
 | .ck=>.slice none 0 0
 | _=>undef
theorem rY {pv:PV} {w:World} {μ:Mu} {h:List al} {S:Nat->Prop} (hs:yv pv=true):cj μ h S w pv (GV pv):=by
 cases pv with
 | int k n=>exact ba.int _ _
 | bool b=>exact ba.bool _
 | str s=>exact ba.str _
 | ck=>exact ba.ck
 | _=>cases hs
theorem PL {P:Program} {K:Env->Prop} (all:List Oper) (o:Oper) (rest:List Oper) (env:Env) (h:List al) {j:Nat} {want:Bool} (hg:o.guard=some (j,want)):
  yh P T all h K (o::rest) env=(match (all[j]?).bind (·.dst) with
     | some t=>match env t with
      | .bool b=>gJ b
        (match (generalizing:=false) want with
         | true=>qop P T o.op (qZ env t (.bool true)) h (λv=>yh P T all h K rest (fx (qZ env t (.bool true)) o.dst v))
         | false=>yh P T all h K rest (fx (qZ env t (.bool true)) o.dst (.fM [])))
        (match (generalizing:=false) want with
         | true=>yh P T all h K rest (fx (qZ env t (.bool false)) o.dst (.fM []))
         | false=>qop P T o.op (qZ env t (.bool false)) h (λv=>yh P T all h K rest (fx (qZ env t (.bool false)) o.dst v)))
      | .fM []=>yh P T all h K rest (fx env o.dst (.fM []))
      | _=>False
     | none=>False):=by
 obtain ⟨dst,op,ty,pos,after,guard⟩:=o
 have hg:guard=some (j,want):=hg
 rw [hg]
 rfl
theorem uc (hT:fe P T) (ops:Array Oper) {K:Env->Prop} {Q:Act->Prop} (h:List al) (w:World) (μ:Mu) (S:Nat->Prop) (hK:∀env a,K env->pg C μ h S env a w->Q a):
  ∀(l:List Oper) (env:Env) (a:Act),yh P T ops.toList h K l env->(∀o∈l,qI C.nt o=true)->pg C μ h S env a w->wpQuiet P ops (c7 w) Q l a
 | [],env,a,hp,_,hs=>hK env a hp hs
 | o::rest,env,a,hp,hd,hs=>by
  have hdo:∀t,o.dst=some t->t<C.nt:=λt ht=>by
   have:=hd o aNf
   unfold qI at this
   rw [ht] at this
   simpa using this
  have hdr:∀o∈rest,qI C.nt o=true:=λo ho=>hd o (by simp [ho])
  have run:∀env',pg C μ h S env' a w->qop P T o.op env' h (λv=>yh P T ops.toList h K rest (fx env' o.dst v))->o.quiet P a (c7 w) (wpQuiet P ops (c7 w) Q rest):=λenv' mj yx=>by
   obtain ⟨dst,op,ty,pos,after,guard⟩:=o
   have still:dA T op env' h (λv=>yh P T ops.toList h K rest (fx env' dst v))->Oper.quiet P ⟨dst,op,ty,pos,after,guard⟩ a (c7 w) (wpQuiet P ops (c7 w) Q rest):=λyx=>by
    obtain ⟨v,val,hK',hv,hr⟩:=oy (P:=P) (env:=env') hT mj.core.heap mj.tmps (dst:=dst) (ty:=ty) (pos:=pos) (after:=after) (guard:=guard) yx
    refine ⟨val,λw' hw'=>?_,uc hT ops h w μ S hK rest _ _ hK' hdr (mj.put Fr.refl mj.core hv hdo)⟩
    unfold Oper.quietAt
    rw [hr w' hw']
    exact ⟨rfl,rfl⟩
   cases op with
   | call c=>
    obtain ⟨cal,args,ts⟩:=c
    cases cal with
    | value fo=>
     have Ua:=dq mj.tmps fo
     change abU P (ev env' fo) (args.toList.map (ev env')) h _ at yx
     unfold abU at yx
     split at yx
     ·rename_i f hef
      rw [hef] at Ua
      replace yx:=bX yx
      obtain ⟨hnt,mH,v,hz,aIh,⟨⟨fn,c,hfn,Mg,zk⟩,hA⟩,hK'⟩:=yx
      obtain ⟨hsc,hK'⟩:=bX hK'
      refine ⟨GV v,λw' hw'=>?_,uc hT ops h w μ S hK rest _ _ hK' hdr (mj.put Fr.refl mj.core (rY hsc) hdo)⟩
      have nJ:=mj.agree hw'
      obtain ⟨hl,hzz⟩:=xZ.get _ _ hz
      have uD:=(zo (k:=[]) (η:=[]) (m:=0) nJ.core trivial rfl).1
      have Mh:=hA w' (args.map a.eval) (mA μ h []) (GU μ h [] S) uD.heap uD.ok (by simpa using hl.symm) (λj gy hj=>by
       have MN:j<args.toList.length:=by have:=(An.1 hj).1;simpa [hl] using this
       have hx:(args.toList.map (ev env'))[j]? =some (ev env' args.toList[j]):=by rw [aKq,Of MN];rfl
       refine ⟨a.eval args.toList[j],by rw [aLN];have:=Of MN;simp only [aKG] at this;rw [this];rfl,?_⟩
       have hv:=(wg (k:=[]) (η:=[]) (m:=0) nJ.core trivial (hzz j _ gy hx hj)).2.2 _ (dq nJ.tmps args.toList[j])
       have oY:=(aKd.1 aIh) gy (aKl hj)
       cases gy with
       | fM ps=>cases oY
       | _=>exact hv)
      have ox:(execOp a.eval ⟨dst,.call ⟨.value fo,args,ts⟩,ty,pos,after,guard⟩).run P w'=.ok (.enter f (args.map a.eval)) w':=by
       simp only [execOp,resolve,Ua.aa2,Deferred.ofValue,invoke,callFunc,Sem.run_bind,Sem.run_pure,Result.andThen_ok,Array.append_empty,aLD]
       have D0:¬fn.name= "runtime.NumGoroutine" :=by simpa using zk
       simp [program,Sem.run,Result.andThen,hfn,D0,Mg]
      unfold Oper.quietAt
      rw [ox]
      refine ⟨rfl,Mh.mono λe w'' ⟨u,res,h',μ',S',he,hR,hv,hH,hM,hF⟩=>?_⟩
      subst hR
      have hu:=(D9 (w':=w) (μ':=μ) (h':=h) (S':=S) hsc (rY (w:=w'') (μ:=μ') (h:=h') (S:=S') hsc)).1
      have hu2:=(D9 (w':=w'') (μ':=μ') (h':=h') (S':=S') hsc (rY (w:=w) (μ:=μ) (h:=h) (S:=S) hsc)).2 u hv
      refine ⟨by rw [he,hu2],hw'.trans ⟨λb hb=>hF.blocks b hb lE,hF.size,hF.os,hF.tape,hF.output⟩⟩
     ·exact yx.elim
    | _=>exact still yx
   | _=>exact still yx
  have skip:∀env',pg C μ h S env' a w->yh P T ops.toList h K rest (fx env' o.dst (.fM []))->wpQuiet P ops (c7 w) Q rest (a.put o.dst undef):=λenv' mj yx=>
   uc hT ops h w μ S hK rest _ _ yx hdr (mj.put Fr.refl mj.core yd hdo)
  unfold wpQuiet
  cases hg:o.guard with
  | none=>
   have hp:qop P T o.op env h (λv=>yh P T ops.toList h K rest (fx env o.dst v)):=by
    exact aMk
   rw [if_pos (by simp [Region.wanted,hg])]
   exact run env hs hp
  | some p=>
   obtain ⟨j,want⟩:=p
   rw [PL ops.toList o rest env h hg] at hp
   split at hp
   ·rename_i t hj
    split at hp
    ·rename_i b he
     have hy:=yc hs hj he
     obtain ⟨ht,hf⟩:=kV hp
     have mj:=hs.D4 he
     cases b with
     | true=>
      have hp:=ht rfl
      cases want with
      | true=>rw [if_pos aNp];exact run _ mj hp
      | false=>rw [if_neg aNp];exact skip _ mj hp
     | false=>
      have hp:=hf rfl
      cases want with
      | true=>rw [if_neg aNp];exact skip _ mj hp
      | false=>rw [if_pos aNp];exact run _ mj hp
    ·rename_i he
     rw [if_neg aNI]
     exact skip _ hs hp
    ·exact aMG
   ·exact aMG
theorem AA:∀(σ:List (Nat×PV)) (t:Nat),zh h η k env σ->(∃v,Fz h η k (env t) v/\BQ pW σ t=v)\/BQ pW σ t=.jQ
 | [],t,_=>.inr rfl
 | (t',v)::r,t,hh=>by
  obtain ⟨h1,h2⟩:=hh
  by_cases htt:t=t'
  ·subst htt
   exact .inl ⟨v,h1,by simp [BQ,D3]⟩
  ·simp only [BQ]
   rw [IP _ _ htt]
   exact AA r t h2
theorem GW (hs:pg C μ h S env a w) {σ:List (Nat×PV)} (ht:zi C.h.length env h σ η):∃μ' S',pg C μ' η S' (BQ pW σ) a w:=by
 obtain ⟨k,hk,hm,he,hh⟩:=ht
 obtain ⟨uD,_,_⟩:=zo hs.core hh hk
 refine ⟨mA μ h k,GU μ h k S,uD,aht hs.core hs.fr hh hk hm,λt=>?_,hs.size,λt bc=>?_,hs.defers⟩
 ·rcases AA σ t he with ⟨v,h1,h2⟩ | h1
  ·rw [h2];exact (wg hs.core hh h1).2.2 _ (hs.tmps t)
  ·rw [h1];trivial
 ·rcases AA σ t he with ⟨v,h1,h2⟩ | h1
  ·rw [hs.far t bc] at h1
   rw [h2]
   cases h1
   rfl
  ·exact h1
theorem D5.mono {Q Q':XQ} {e:Exit} {w:World} (hq:∀env h,Q e env h->Q' e env h) (hl:D5 C Q e a w):D5 C Q' e a w:=by
 obtain ⟨μ,h,S,env,hs,hQ⟩:=hl
 exact ⟨μ,h,S,env,hs,hq env h hQ⟩
theorem rD:∀(l:List Nat) (x:Nat),pM l x=true->x∈l
 | [],_,h=>by cases h
 | a::r,x,h=>by
  unfold pM at h
  split at h
  ·rename_i hb
   have:=No hb
   simp [this]
  ·exact aKz _ (rD r x h)
theorem ud (hT:fe P T) (ops:Array Oper) {K:Env->List al->Prop} {Q:Exit->Act->World->Prop} {next:Act->World->Prop} (hK:∀env h a w μ S,K env h->pg C μ h S env a w->next a w) (i:Nat) (o:Oper) (ho:ops[i]? =some o)
  (hd:qI C.nt o=true) (env:Env) (h:List al) (a:Act) (w:World) (μ:Mu) (S:Nat->Prop) (hp:wh P T ops.toList K [o] env h) (hs:pg C μ h S env a w):wpOp P ops Q i next a w:=by
 have hdo:∀t,o.dst=some t->t<C.nt:=λt ht=>by
  unfold qI at hd
  rw [ht] at hd
  simpa using hd
 have run:∀env',pg C μ h S env' a w->pop P T o.op env' h (λv h'=>K (fx env' o.dst v) h')->o.wp P a w next Q:=λenv' mj yx=>by
  obtain ⟨dst,op,ty,pos,after,guard⟩:=o
  refine GR (env:=env') hT mj.core mj.tmps yx _ _ λv val h' μ' S' w' hK' hv hc hf=>?_
  exact hK _ h' _ w' μ' S' hK' (mj.put hf hc hv hdo)
 have skip:∀env',pg C μ h S env' a w->K (fx env' o.dst (.fM [])) h->next (a.put o.dst undef) w:=λenv' mj yx=>
  hK _ h _ w μ S yx (mj.put Fr.refl mj.core yd hdo)
 unfold wpOp
 simp only [ho]
 cases hg:o.guard with
 | none=>
  have hp:pop P T o.op env h (λv h'=>K (fx env o.dst v) h'):=by
   exact aMk
  rw [if_pos (by simp [Region.wanted,hg])]
  exact .inl (run env hs hp)
 | some p=>
  obtain ⟨j,want⟩:=p
  rw [ye ops.toList o [] env h hg] at hp
  split at hp
  ·rename_i t hj
   split at hp
   ·rename_i b he
    have hy:=yc hs hj he
    obtain ⟨ht,hf⟩:=kV hp
    have mj:=hs.D4 he
    cases b with
    | true=>
     have hp:=ht rfl
     cases want with
     | true=>rw [if_pos aNp];exact .inl (run _ mj hp)
     | false=>rw [if_neg aNp];exact skip _ mj hp
    | false=>
     have hp:=hf rfl
     cases want with
     | true=>rw [if_neg aNp];exact skip _ mj hp
     | false=>rw [if_pos aNp];exact .inl (run _ mj hp)
   ·rename_i he
    rw [if_neg aNI]
    exact skip _ hs hp
   ·exact aMG
  ·exact aMG
theorem abV {op:Op} {env:Env} {h:List al} {G:PV->List al->Prop} (hs:dA T op env h (λv=>G v h)):pop P T op env h G:=by
 cases op with
 | store t a x=>exact hs.elim
 | box t x=>exact hs.elim
 | alloc t=>exact hs.elim
 | makeSlice t l c=>exact hs.elim
 | buildSlice t len parts=>exact hs.elim
 | convert s d x=>
  simp only [pop]
  split
  ·rename_i e1 e2 e3
   simp only [dA,e1,e2,e3] at hs
  ·exact hs
 | binOp bo t x y ty=>
  simp only [pop]
  split
  ·rename_i e1 e2 e3
   simp only [dA,To,e1,e2,e3] at hs
  ·exact hs
 | makeMap t r=>exact hs.elim
 | mapUpdate t m k x=>exact hs.elim
 | call c=>
  obtain ⟨callee,args,ts⟩:=c
  cases callee with
  | value fo=>exact hs.elim
  | builtin b=>cases b with
   | append=>exact hs.elim
   | copy=>exact hs.elim
   | _=>(simp only [pop];exact hs)
  | _=>(simp only [pop];exact hs)
 | _=>(simp only [pop];exact hs)
theorem Ea {st:Bool} {op:Op} {env:Env} {h:List al} {G:PV->List al->Prop} (hs:FO P T st op env h G):pop P T op env h G:=by
 cases st with
 | true=>exact abV hs
 | false=>exact hs
theorem B5 {all:List Oper} {st:Bool} {o:Oper} {K:Env->List al->Prop} {env:Env} {h:List al} (hp:fs P T all st o (λv h'=>K (fx env o.dst v) h') env h):wh P T all K [o] env h:=by
 unfold fs at hp
 cases hg:o.guard with
 | none=>
  rw [hg] at hp
  obtain ⟨dst,op,ty,pos,after,guard⟩:=o
  have hg:guard=none:=hg
  subst hg
  exact Ea hp
 | some q=>
  obtain ⟨j,want⟩:=q
  rw [hg] at hp
  rw [ye all o [] env h hg]
  simp only at hp ⊢
  generalize (all[j]?).bind (·.dst)=d at hp ⊢
  cases d with
  | none=>exact hp.elim
  | some t=>
   simp only at hp ⊢
   generalize hv:env t=v at hp ⊢
   cases v with
   | bool b=>
    simp only at hp ⊢
    cases b with
    | true=>
     refine .mk (λ_=>?_) (λhc=>by cases hc)
     rw [B6 hv]
     cases want with
     | true=>exact Ea hp
     | false=>exact hp
    | false=>
     refine .mk (λhc=>by cases hc) (λ_=>?_)
     rw [B6 hv]
     cases want with
     | true=>exact hp
     | false=>exact Ea hp
   | fM l=>cases l with
    | nil=>exact hp
    | cons a r=>exact hp.elim
   | _=>exact hp.elim
inductive MO (all:List Oper):Nat->Nat->Prop
 | base {x i:Nat} (h:x∈dX all i):MO all x i
 | step {x d i:Nat} (h:d∈dX all i) (hx:MO all x d):MO all x i
theorem IQ:∀(l acc:List Nat) (x:Nat),x∈ddL l acc->x∈l\/x∈acc
 | [],acc,x,h=>.inr h
 | a::r,acc,x,h=>by
  unfold ddL at h
  cases hi:pM acc a with
  | true=>rw [hi] at h;exact (IQ r acc x h).imp (aKz _) id
  | false=>
   rw [hi] at h
   rcases IQ r (a::acc) x h with h | h
   ·exact .inl (aKz _ h)
   ·simp only [aKo] at h
    rcases h with rfl | h
    ·exact .inl aNf
    ·exact .inr h
theorem zp:∀(l:List Nat) (x:Nat),x∈l->pM l x=true
 | a::r,x,h=>by
  unfold pM
  cases hb:Nat.beq a x with
  | true=>rfl
  | false=>
   simp only [aKo] at h
   rcases h with rfl | h
   ·rw [aLp] at hb;cases hb
   ·exact zp r x h
theorem AB {all:List Oper}:∀(ord:List (Nat×Bool)) (t:List (Nat×List Nat)),(∀i x,pM (gw t i) x=true->MO all x i)->∀i x,pM (gw (IS all ord t) i) x=true->MO all x i
 | [],t,hg=>hg
 | (j,b)::r,t,hg=>AB r _ (λi x hx=>by
  unfold gw at hx
  cases hb:Nat.beq j i with
  | false=>rw [hb] at hx;exact hg i x hx
  | true=>
   rw [hb] at hx
   have:=No hb
   subst this
   rcases IQ _ _ _ (rD _ _ hx) with hm | hm
   ·rw [aKj,List.mem_flatMap] at hm
    rcases hm with hm | ⟨d,hd,hm⟩
    ·exact .base hm
    ·exact .step hd (hg d x (zp _ _ hm))
   ·simp at hm)
theorem lp {ops:Array Oper} {t:List (Nat×List Nat)} {p:Nat×Bool}:∀(l1 l2:List (Nat×Bool)),db ops t (l1++p::l2)=true->(∀o,o∈l1->jt ops t o p=true)/\db ops t (l1++l2)=true
 | [],l2,h=>by
  simp only [aKk,db,At] at h
  exact ⟨λo ho=>by simp at ho,h.2⟩
 | a::l1,l2,h=>by
  simp only [aKY,db,At,aKd] at h ⊢
  obtain ⟨h1,h2⟩:=lp l1 l2 h.2
  refine ⟨λo ho=>?_,λq hq=>h.1 q (by simp only [aKj,aKo] at hq ⊢;exact hq.imp id .inr),h2⟩
  simp only [aKo] at ho
  rcases ho with rfl | ho
  ·exact h.1 p aNf
  ·exact h1 o ho
theorem ue {ops:Array Oper} {i:Nat} {o:Oper} (ho:ops[i]? =some o) {d:Nat}:d∈dX ops.toList i↔∃e,e∈o.after/\Region.binds .any e=true/\e.on=d:=by
 unfold dX
 have:ops.toList[i]? =some o:=by simpa using ho
 rw [this]
 unfold abW
 rw [List.mem_filterMap]
 constructor
 ·rintro ⟨e,he,hx⟩
  cases hb:Region.binds .any e with
  | true=>rw [hb] at hx;exact ⟨e,by simpa using he,hb,by simpa using hx⟩
  | false=>rw [hb] at hx;cases hx
 ·rintro ⟨e,he,hb,hx⟩
  exact ⟨e,by simpa using he,by rw [hb];simp [hx]⟩
theorem IU (hT:fe P T) (ops:Array Oper) {t:List (Nat×List Nat)} (nF:∀i x,pM (gw t i) x=true->MO ops.toList x i) (tf:∀i,i<ops.size->∀d,d∈dX ops.toList i->d<ops.size/\d≠i)
  {K:Env->List al->Prop} {Q:Exit->Act->World->Prop} (hK:∀env h a w μ S,K env h->pg C μ h S env a w->Q .normal a w) (hd:∀o∈ops.toList,qI C.nt o=true):
  ∀(n:Nat) (l:List (Nat×Bool)) (dw:List (Nat×List Nat)) (listed:Array Bool) (env:Env) (h:List al) (a:Act) (w:World) (μ:Mu) (S:Nat->Prop),l.length=n->db ops t l=true->(∀p,p∈l->p.1<ops.size)->listed.size=ops.size->
   (∀j,j<ops.size->(listed.getD j true=false↔j∈l.map (·.1)))->(∀j,j<ops.size->j∉l.map (·.1)->∀d,d∈dX ops.toList j->d∉l.map (·.1))->PM P T ops.toList t K l dw env h->pg C μ h S env a w->wpAny P .any ops Q n listed a w
 | 0,l,dw,listed,env,h,a,w,μ,S,hn,_,_,jO,Jh,_,hf,hs=>by
  obtain rfl:l=[]:=aLt.1 hn
  refine ⟨?_,hK env h a w μ S hf hs⟩
  cases hr:Region.ready .any ops listed with
  | nil=>rfl
  | cons j r=>
   have hj:j∈Region.ready .any ops listed:=by rw [hr];simp
   rw [mem_ready] at hj
   obtain ⟨h1,o,ho,_⟩:=hj
   have:=(Jh j (abF.1 ho).1).1 h1
   simp at this
 | n+1,l,dw,listed,env,h,a,w,μ,S,hn,hpo,bc,jO,Jh,Ug,hf,hs=>by
  have hgd:∀d,d<ops.size->(listed.getD d false=true↔d∉l.map (·.1)):=λd hdl=>by
   have:=Jh d hdl
   have e:listed.getD d false=listed.getD d true:=by simp [Array.getD,jO,hdl]
   rw [e,<-this]
   cases listed.getD d true<;>simp
  refine ⟨λh0=>?_,λi hi=>?_⟩
  ·exfalso
   cases l with
   | nil=>simp at hn
   | cons p r=>
    have hp:=bc p aNf
    have ho:=aKA hp
    have:p.1∈Region.ready .any ops listed:=by
     rw [mem_ready]
     refine ⟨(Jh p.1 hp).2 aNf,_,ho,λe he hb=>?_⟩
     have hm:e.on∈dX ops.toList p.1:=(ue ho).2 ⟨e,he,hb,rfl⟩
     obtain ⟨d1,d2⟩:=tf p.1 hp _ hm
     rw [hgd _ d1]
     intro hc
     simp only [aKp,aKo,aKJ] at hc
     rcases hc with hc | ⟨q,hq,hc⟩
     ·exact d2 hc
     ·simp only [db,At,aKd] at hpo
      have:=hpo.1 q hq
      unfold jt at this
      simp only [At,aKN] at this
      rw [hc,zp _ _ hm] at this
      exact absurd this.1.2 aNf
    rw [h0] at this
    simp at this
  ·rw [mem_ready] at hi
   obtain ⟨h1,oi,IV,abX⟩:=hi
   have uE:=(abF.1 IV).1
   have GX:∀d,d∈dX ops.toList i->d∉l.map (·.1):=λd IW=>by
    obtain ⟨e,he,hb,rfl⟩:=(ue IV).1 IW
    exact (hgd _ (tf i uE _ IW).1).1 (abX e he hb)
   have IX:∀x,MO ops.toList x i->x∉l.map (·.1):=by
    have gen:∀x j,MO ops.toList x j->j<ops.size->(∀d,d∈dX ops.toList j->d∉l.map (·.1))->x∉l.map (·.1):=λx j ha=>by
     induction ha with
     | base hx=>exact λ_ hj=>hj _ hx
     | step IW _ ih=>exact λhj hjd=>ih (tf _ hj _ IW).1 (Ug _ (tf _ hj _ IW).1 (hjd _ IW))
    exact λx ha=>gen x i ha uE GX
   obtain ⟨p,hp,hpi⟩:=aKJ.1 ((Jh i uE).1 h1)
   obtain ⟨l1,l2,rfl⟩:=List.append_of_mem hp
   obtain ⟨i',st⟩:=p
   simp only at hpi
   subst hpi
   obtain ⟨hpr,aIi⟩:=lp l1 l2 hpo
   have PN:ops.toList[i']? =some oi:=by simpa using IV
   have hmv:=Mm (P:=P) (T:=T) (ops:=ops) (t:=t) (K:=K) PN l1 l2 dw env h (λq hq=>by
    have hk:=hpr q hq
    unfold jt at hk
    simp only [At,aLi,aKN] at hk
    have hqm:q.1∈(l1++(i',st)::l2).map (·.1):=aKJ.2 ⟨q,by simp [hq],rfl⟩
    have hna:pM (gw t i') q.1=false:=by
     cases hb:pM (gw t i') q.1 with
     | false=>rfl
     | true=>exact absurd hqm (IX _ (nF _ _ hb))
    rcases hk.2 with Ad | ⟨hk1,yP⟩
    ·exact absurd hqm (GX _ (rD _ _ Ad))
    ·refine ⟨?_,hna,hk1⟩
     rcases yP with yP | yP
     ·exact yP
     ·rw [hna] at yP;cases yP) hf
   have oY:∀q,q∈l1++l2->q.1≠i':=λq hq=>by
    rw [aKj] at hq
    rcases hq with hq | hq
    ·have hk:=hpr q hq
     unfold jt at hk
     simp only [At,aKN] at hk
     intro he
     have this:Nat.beq q.1 i'=false:=hk.1.1
     rw [he,aLp] at this
     cases this
    ·have:∀(l1:List (Nat×Bool)),db ops t (l1++(i',st)::l2)=true->jt ops t (i',st) q=true:=λl1=>by
      induction l1 with
      | nil=>intro hh;simp only [aKk,db,At,aKd] at hh;exact hh.1 q hq
      | cons b r ih=>intro hh;simp only [aKY,db,At] at hh;exact ih hh.2
     have hk:=this l1 hpo
     unfold jt at hk
     simp only [At,aKN] at hk
     intro he
     have:=hk.1.1
     rw [he] at this
     rw [aLp] at this
     cases this
   have IY:∀j,j∈(l1++(i',st)::l2).map (·.1)↔j=i'\/j∈(l1++l2).map (·.1):=λj=>by
    simp only [List.map_append,aKp,aKj,aKo]
    constructor
    ·rintro (h | h | h)
     ·exact .inr (.inl h)
     ·exact .inl h
     ·exact .inr (.inr h)
    ·rintro (h | h | h)
     ·exact .inr (.inl h)
     ·exact .inl h
     ·exact .inr (.inr h)
   have hni:i'∉(l1++l2).map (·.1):=λhm=>by
    obtain ⟨q,hq,he⟩:=aKJ.1 hm
    exact oY q hq he
   have Eb:wh P T ops.toList (λenv' h'=>PM P T ops.toList t K (l1++l2) dw env' h') [oi] env h:=B5 (jl (λv h' hk=>hk.2.2) hmv)
   refine ud hT ops (λenv' h' a' w' μ' S' hk mj=>IU hT ops nF tf hK hd n (l1++l2) dw _ env' h' a' w' μ' S' (by simp at hn ⊢;omega) aIi (λq hq=>bc q (by rw [aKj] at hq ⊢;exact hq.imp id (aKz _))) (by simpa using jO) (λj hj=>?_) (λj hj hjn dd MJ=>?_) hk mj) i' oi IV (hd oi (by have:=(An.1 PN);obtain ⟨h1,h2⟩:=this;rw [<-h2];exact aKr h1)) env h a w μ S Eb hs
   ·by_cases ie:j=i'
    ·subst ie
     constructor
     ·intro hc
      have:(listed.setIfInBounds j true).getD j true=true:=by simp [Array.getD,jO,hj]
      rw [this] at hc;cases hc
     ·intro hc;exact absurd hc hni
    ·have e:(listed.setIfInBounds i' true).getD j true=listed.getD j true:=getD_set_ne true (aLo ie)
     rw [e,Jh j hj,IY j]
     constructor
     ·rintro (h | h)
      ·exact absurd h ie
      ·exact h
     ·exact .inr
   ·by_cases ie:j=i'
    ·subst ie
     exact λhm=>GX dd MJ ((IY dd).2 (.inr hm))
    ·exact λhm=>Ug j hj (λhc=>by rcases (IY j).1 hc with hc | hc;exact ie hc;exact hjn hc) dd MJ ((IY dd).2 (.inr hm))
theorem Ec {ops:Array Oper} {listed:Array Bool} {i:Nat} {L L':List Nat} (IY:∀j,j∈L↔j=i\/j∈L') (hni:i∉L') (jO:listed.size=ops.size) (Jh:∀j,j<ops.size->(listed.getD j true=false↔j∈L))
  (Ug:∀j,j<ops.size->j∉L->∀d,d∈dX ops.toList j->d∉L) (GX:∀d,d∈dX ops.toList i->d∉L):
  (∀j,j<ops.size->((listed.setIfInBounds i true).getD j true=false↔j∈L'))/\∀j,j<ops.size->j∉L'->∀d,d∈dX ops.toList j->d∉L':=by
 refine ⟨λj hj=>?_,λj hj hjn d MJ hm=>?_⟩
 ·by_cases ie:j=i
  ·subst ie
   constructor
   ·intro hc
    have:(listed.setIfInBounds j true).getD j true=true:=by simp [Array.getD,jO,hj]
    rw [this] at hc;cases hc
   ·intro hc;exact absurd hc hni
  ·have e:(listed.setIfInBounds i true).getD j true=listed.getD j true:=getD_set_ne true (aLo ie)
   rw [e,Jh j hj,IY j]
   exact ⟨λh=>h.resolve_left ie,.inr⟩
 ·by_cases ie:j=i
  ·subst ie
   exact GX d MJ ((IY d).2 (.inr hm))
  ·exact Ug j hj (λhc=>by rcases (IY j).1 hc with hc | hc;exact ie hc;exact hjn hc) d MJ ((IY d).2 (.inr hm))
theorem wG {ops:Array Oper} {t:List (Nat×List Nat)} {p q:Nat×Bool} (h:jt ops t p q=true):p.1≠q.1:=by
 unfold jt at h
 simp only [At,aKN] at h
 intro he
 have:=h.1.1
 rw [he,aLp] at this
 cases this
theorem PO {ops:Array Oper} {t:List (Nat×List Nat)} {p q:Nat×Bool} (h:jt ops t p q=true):q.1∉dX ops.toList p.1:=by
 unfold jt at h
 simp only [At,aKN] at h
 intro hm
 have:=h.1.2
 rw [zp _ _ hm] at this
 cases this
theorem qJ {ops:Array Oper} {t:List (Nat×List Nat)} {p q:Nat×Bool}:∀(l1 l2:List (Nat×Bool)),db ops t (l1++p::l2)=true->q∈l2->jt ops t p q=true
 | [],l2,h,hq=>by simp only [aKk,db,At,aKd] at h;exact h.1 q hq
 | _::l1,l2,h,hq=>by simp only [aKY,db,At] at h;exact qJ l1 l2 h.2 hq
theorem Ed {ops:Array Oper} {t:List (Nat×List Nat)} (nF:∀i x,pM (gw t i) x=true->MO ops.toList x i) {L:List Nat} {q:Nat×Bool} {i:Nat} {st:Bool} (hk:jt ops t q (i,st)=true) (hqL:q.1∈L) (GX:∀d,d∈dX ops.toList i->d∉L) (IX:∀x,MO ops.toList x i->x∉L):
  q.2=true/\pM (gw t i) q.1=false/\wH ops q.1 i=true:=by
 unfold jt at hk
 simp only [At,aLi,aKN] at hk
 have hna:pM (gw t i) q.1=false:=by
  cases hb:pM (gw t i) q.1 with
  | false=>rfl
  | true=>exact absurd hqL (IX _ (nF _ _ hb))
 rcases hk.2 with Ad | ⟨hk1,yP⟩
 ·exact absurd hqL (GX _ (rD _ _ Ad))
 ·refine ⟨?_,hna,hk1⟩
  rcases yP with yP | yP
  ·exact yP
  ·rw [hna] at yP;cases yP
def Left (ops:Array Oper) (l:List (Nat×Bool)) (R:List Nat) (listed:Array Bool):Prop:=
 listed.size=ops.size/\(∀j,j<ops.size->(listed.getD j true=false↔j∈l.map (·.1)++R))/\∀j,j<ops.size->j∉l.map (·.1)++R->∀d,d∈dX ops.toList j->d∉l.map (·.1)++R
def Snd (P:Program) (T:qq) (C:Start) (ops:Array Oper) (t:List (Nat×List Nat)) (Q:Exit->Act->World->Prop) (E:List (Nat×List Nat)->Env->List al->Prop) (R:List Nat) (c:List (Nat×Bool)->Prop):Prop:=
 ∀(l:List (Nat×Bool)) (dw:List (Nat×List Nat)) (listed:Array Bool) (env:Env) (h:List al) (a:Act) (w:World) (μ:Mu) (S:Nat->Prop),c l->(∀p,p∈l->p.1<ops.size)->Left ops l R listed->
  mM P T ops.toList t E l dw env h->pg C μ h S env a w->wpAny P .any ops Q (l.length+R.length) listed a w
theorem RB (hT:fe P T) (ops:Array Oper) {t:List (Nat×List Nat)} (nF:∀i x,pM (gw t i) x=true->MO ops.toList x i) (tf:∀i,i<ops.size->∀d,d∈dX ops.toList i->d<ops.size/\d≠i)
  {K:Env->List al->Prop} {Q:Exit->Act->World->Prop} (hK:∀env h a w μ S,K env h->pg C μ h S env a w->Q .normal a w) (hd:∀o∈ops.toList,qI C.nt o=true) (A:List (Nat×Bool)) (hA:∀p,p∈A->p.1<ops.size):
  Snd P T C ops t Q (λdw env h=>PM P T ops.toList t K A dw env h) (A.map (·.1)) (λl=>db ops t (l++A)=true):=by
 intro l dw listed env h a w μ S hc bc hL hf hs
 obtain ⟨jO,Jh,Ug⟩:=hL
 rw [show l.length+(A.map (·.1)).length=(l++A).length from by simp]
 rw [<-List.map_append] at Jh Ug
 exact IU hT ops nF tf hK hd _ (l++A) dw listed env h a w μ S rfl hc (λp hp=>by rcases aKj.1 hp with q | q;exact bc p q;exact hA p q) jO Jh Ug (wi l dw env h hf) hs
theorem afm {ops:Array Oper} {t:List (Nat×List Nat)} {Q:Exit->Act->World->Prop} {E:List (Nat×List Nat)->Env->List al->Prop} {R:List Nat} {c:List (Nat×Bool)->Prop} (hE:Snd P T C ops t Q E R c) (o1:List (Nat×Bool)) (h1:∀p,p∈o1->p.1<ops.size):
  Snd P T C ops t Q (λdw env h=>mM P T ops.toList t E o1 dw env h) (o1.map (·.1)++R) (λl=>c (l++o1)):=by
 intro l dw listed env h a w μ S hc bc hL hf hs
 have e:(l++o1).map (·.1)++R=l.map (·.1)++(o1.map (·.1)++R):=by simp
 have:=hE (l++o1) dw listed env h a w μ S hc (λp hp=>by rcases aKj.1 hp with q | q;exact bc p q;exact h1 p q) (by unfold Left;rw [e];exact hL) (wj l dw env h hf) hs
 rw [show l.length+(o1.map (·.1)++R).length=(l++o1).length+R.length from by simp;omega]
 exact this
structure BrC (ops:Array Oper) (t:List (Nat×List Nat)) (x y:Nat) (R:List Nat) (cX cY:List (Nat×Bool)->Prop) (l:List (Nat×Bool)):Prop where
 pw:db ops t l=true
 hd:∀p,p∈l->jt ops t p (x,false)=true/\jt ops t p (y,false)=true/\(∀d,d∈dX ops.toList p.1->d∉R)/\p.1∉R
 x:cX l
 y:cY l
theorem am8 (hT:fe P T) (ops:Array Oper) {t:List (Nat×List Nat)} (nF:∀i x,pM (gw t i) x=true->MO ops.toList x i) (tf:∀i,i<ops.size->∀d,d∈dX ops.toList i->d<ops.size/\d≠i)
  {Q:Exit->Act->World->Prop} (hd:∀o∈ops.toList,qI C.nt o=true) {x y:Nat} {RX RY:List Nat} {EX EY:List (Nat×List Nat)->Env->List al->Prop} {cX cY:List (Nat×Bool)->Prop} (hEX:uF EX) (hEY:uF EY)
  (hX:Snd P T C ops t Q EX RX cX) (hY:Snd P T C ops t Q EY RY cY) (hcX:∀l1 p l2,cX (l1++p::l2)->cX (l1++l2)) (hcY:∀l1 p l2,cY (l1++p::l2)->cY (l1++l2))
  (hlen:RX.length=RY.length) (hAB:∀j,j∈x::RX↔j∈y::RY) (hxs:x<ops.size) (hxd:∀d,d∈dX ops.toList x->d∉x::RX) (hxr:x∉RX) (hyr:y∉RY) (aIj:∀j,j∈RX->j=y\/pM (gw t j) x=true\/pM (gw t j) y=true):
  Snd P T C ops t Q (λdw env h=>mM P T ops.toList t EX [(x,false)] dw env h/\mM P T ops.toList t EY [(y,false)] dw env h) (x::RX) (BrC ops t x y (x::RX) cX cY):=by
 have hE:uF (λdw env h=>mM P T ops.toList t EX [(x,false)] dw env h/\mM P T ops.toList t EY [(y,false)] dw env h):=GY (qK hEX _) (qK hEY _)
 intro l
 generalize hn:l.length=n
 induction n generalizing l with
 | zero=>?z
 | succ n ih=>?s
 all_goals
  intro dw listed env h a w μ S hc bc hL hf hs
  obtain ⟨jO,Jh,Ug⟩:=hL
  have hgd:∀d,d<ops.size->(listed.getD d false=true↔d∉l.map (·.1)++x::RX):=λd hdl=>by
   have:=Jh d hdl
   have e:listed.getD d false=listed.getD d true:=by simp [Array.getD,jO,hdl]
   rw [e,<-this]
   cases listed.getD d true<;>simp
  refine ⟨λh0=>?_,λi hi=>?_⟩
 case z.refine_1 | s.refine_1=>
  exfalso
  have first:∃p,p<ops.size/\p∈l.map (·.1)++x::RX/\∀d,d∈dX ops.toList p->d∉l.map (·.1)++x::RX:=by
   cases l with
   | nil=>exact ⟨x,hxs,by simp,λd MJ hm=>hxd d MJ (by simpa using hm)⟩
   | cons p r=>
    have hp:=bc p aNf
    refine ⟨p.1,hp,by simp,λd MJ hm=>?_⟩
    rw [aKj] at hm
    rcases hm with hm | hm
    ·simp only [aKp,aKo,aKJ] at hm
     rcases hm with rfl | ⟨q,hq,rfl⟩
     ·exact (tf _ hp _ MJ).2 rfl
     ·exact PO (qJ [] _ hc.pw hq) MJ
    ·exact (hc.hd p aNf).2.2.1 d MJ hm
  obtain ⟨p,hp,hpm,hpd⟩:=first
  have ho:=aKA hp
  have:p∈Region.ready .any ops listed:=by
   rw [mem_ready]
   refine ⟨(Jh p hp).2 hpm,_,ho,λe he hb=>?_⟩
   have hm:e.on∈dX ops.toList p:=(ue ho).2 ⟨e,he,hb,rfl⟩
   rw [hgd _ (tf p hp _ hm).1]
   exact hpd _ hm
  rw [h0] at this
  simp at this
 all_goals
  rw [mem_ready] at hi
  obtain ⟨h1,oi,IV,abX⟩:=hi
  have uE:=(abF.1 IV).1
  have PN:ops.toList[i]? =some oi:=by simpa using IV
  have am9:qI C.nt oi=true:=hd oi (by obtain ⟨h1,h2⟩:=An.1 PN;rw [<-h2];exact aKr h1)
  have GX:∀d,d∈dX ops.toList i->d∉l.map (·.1)++x::RX:=λd IW=>by
   obtain ⟨e,he,hb,rfl⟩:=(ue IV).1 IW
   exact (hgd _ (tf i uE _ IW).1).1 (abX e he hb)
  have IX:∀z,MO ops.toList z i->z∉l.map (·.1)++x::RX:=by
   have gen:∀z j,MO ops.toList z j->j<ops.size->(∀d,d∈dX ops.toList j->d∉l.map (·.1)++x::RX)->z∉l.map (·.1)++x::RX:=λz j ha=>by
    induction ha with
    | base hx=>exact λ_ hj=>hj _ hx
    | step IW _ ih=>exact λhj hjd=>ih (tf _ hj _ IW).1 (Ug _ (tf _ hj _ IW).1 (hjd _ IW))
   exact λz ha=>gen z i ha uE GX
  have hyA:y∈x::RX:=(hAB y).2 aNf
  have him:=(Jh i uE).1 h1
  rw [aKj] at him
  have split:i∈l.map (·.1)\/i=x\/i=y:=by
   rcases him with him | him
   ·exact .inl him
   ·rcases aKo.1 him with rfl | hq
    ·exact .inr (.inl rfl)
    ·rcases aIj i hq with h2 | h2 | h2
     ·exact .inr (.inr h2)
     ·exact absurd (by simp:x∈l.map (·.1)++x::RX) (IX _ (nF _ _ h2))
     ·exact absurd (by rw [aKj];exact .inr hyA) (IX _ (nF _ _ h2))
  have aIk:∀q,q∈l->q.1∉x::RX:=λq hq=>(hc.hd q hq).2.2.2
  rcases split with him | rfl | rfl
 case z.refine_2.inl=>obtain rfl:=aLt.1 hn;simp at him
 case s.refine_2.inl=>
  obtain ⟨p,hp,hpi⟩:=aKJ.1 him
  obtain ⟨l1,l2,rfl⟩:=List.append_of_mem hp
  obtain ⟨i',st⟩:=p
  simp only at hpi
  subst hpi
  obtain ⟨hpr,hpw⟩:=lp l1 _ hc.pw
  have hmv:=wI hE (P:=P) (T:=T) (ops:=ops) (t:=t) PN l1 l2 dw env h (λq hq=>Ed nF (hpr q hq) (by rw [aKj];exact .inl (aKJ.2 ⟨q,List.mem_append_left _ hq,rfl⟩)) GX IX) hf
  have hni:i'∉(l1++l2).map (·.1)++x::RX:=λhm=>by
   rw [aKj] at hm
   rcases hm with hm | hm
   ·obtain ⟨q,hq,he⟩:=aKJ.1 hm
    rcases aKj.1 hq with hq | hq
    ·exact wG (hpr q hq) he
    ·exact wG (qJ l1 _ hc.pw hq) he.symm
   ·exact aIk (i',st) aNf hm
  obtain ⟨r1,r2⟩:=Ec (L':=(l1++l2).map (·.1)++x::RX) (λj=>by
   simp only [List.map_append,aKp,aKj,aKo]
   constructor
   ·rintro ((h | h | h) | h)
    ·exact .inr (.inl (.inl h))
    ·exact .inl h
    ·exact .inr (.inl (.inr h))
    ·exact .inr (.inr h)
   ·rintro (h | (h | h) | h)
    ·exact .inl (.inr (.inl h))
    ·exact .inl (.inl h)
    ·exact .inl (.inr (.inr h))
    ·exact .inr h) hni jO Jh Ug GX
  have Eb:wh P T ops.toList (λenv' h'=>mM P T ops.toList t (λdw env h=>mM P T ops.toList t EX [(x,false)] dw env h/\mM P T ops.toList t EY [(y,false)] dw env h) (l1++l2) dw env' h') [oi] env h:=B5 (jl (λv h' hk=>hk.2.2) hmv)
  have hc':BrC ops t x y (x::RX) cX cY (l1++l2):=⟨hpw,λq hq=>hc.hd q (by
   simp only [aKj,aKo] at hq ⊢
   exact hq.imp id .inr),hcX _ _ _ hc.x,hcY _ _ _ hc.y⟩
  have q:wpOp P ops Q i' (wpAny P .any ops Q (n+(x::RX).length) (listed.setIfInBounds i' true)) a w:=ud hT ops (λenv' h' a' w' μ' S' hk mj=>ih (l1++l2) (by simp at hn ⊢;omega) dw _ env' h' a' w' μ' S' hc' (λq hq=>bc q (by
   simp only [aKj,aKo] at hq ⊢
   exact hq.imp id .inr)) ⟨by simpa using jO,r1,r2⟩ hk mj) i' oi IV am9 env h a w μ S Eb hs
  rw [show n+(x::RX).length=n+1+RX.length from by simp;omega] at q
  exact q
 case z.refine_2.inr.inl | s.refine_2.inr.inl=>
  have Jf:mM P T ops.toList t EX (l++[(i,false)]) dw env h:=wj l dw env h (zq (λ_ _ _ q=>q.1) l dw env h hf)
  have hmv:=wI hEX (P:=P) (T:=T) (ops:=ops) (t:=t) PN l [] dw env h (λq hq=>Ed nF (hc.hd q hq).1 (by rw [aKj];exact .inl (aKJ.2 ⟨q,hq,rfl⟩)) GX IX) Jf
  have hni:i∉l.map (·.1)++RX:=λhm=>by
   rcases aKj.1 hm with hm | hm
   ·obtain ⟨q,hq,he⟩:=aKJ.1 hm
    exact wG (hc.hd q hq).1 he
   ·exact hxr hm
  obtain ⟨r1,r2⟩:=Ec (L':=l.map (·.1)++RX) (λj=>by
   simp only [aKj,aKo]
   constructor
   ·rintro (h | h | h)
    ·exact .inr (.inl h)
    ·exact .inl h
    ·exact .inr (.inr h)
   ·rintro (h | h | h)
    ·exact .inr (.inl h)
    ·exact .inl h
    ·exact .inr (.inr h)) hni jO Jh Ug GX
  have Eb:wh P T ops.toList (λenv' h'=>mM P T ops.toList t EX l dw env' h') [oi] env h:=B5 (jl (λv h' hk=>by have:=hk.2.2;rwa [aKF] at this) hmv)
  have q:wpOp P ops Q i (wpAny P .any ops Q (l.length+RX.length) (listed.setIfInBounds i true)) a w:=ud hT ops (λenv' h' a' w' μ' S' hk mj=>hX l dw _ env' h' a' w' μ' S' hc.x bc ⟨by simpa using jO,r1,r2⟩ hk mj) i oi IV am9 env h a w μ S Eb hs
  rw [hn] at q
  exact q
 case z.refine_2.inr.inr | s.refine_2.inr.inr=>
  have Jf:mM P T ops.toList t EY (l++[(i,false)]) dw env h:=wj l dw env h (zq (λ_ _ _ q=>q.2) l dw env h hf)
  have hmv:=wI hEY (P:=P) (T:=T) (ops:=ops) (t:=t) PN l [] dw env h (λq hq=>Ed nF (hc.hd q hq).2.1 (by rw [aKj];exact .inl (aKJ.2 ⟨q,hq,rfl⟩)) GX IX) Jf
  have hni:i∉l.map (·.1)++RY:=λhm=>by
   rcases aKj.1 hm with hm | hm
   ·obtain ⟨q,hq,he⟩:=aKJ.1 hm
    exact wG (hc.hd q hq).2.1 he
   ·exact hyr hm
  obtain ⟨r1,r2⟩:=Ec (L':=l.map (·.1)++RY) (λj=>by
   rw [aKj,hAB j,aKj]
   simp only [aKo]
   constructor
   ·rintro (h | h | h)
    ·exact .inr (.inl h)
    ·exact .inl h
    ·exact .inr (.inr h)
   ·rintro (h | h | h)
    ·exact .inr (.inl h)
    ·exact .inl h
    ·exact .inr (.inr h)) hni jO Jh Ug GX
  have Eb:wh P T ops.toList (λenv' h'=>mM P T ops.toList t EY l dw env' h') [oi] env h:=B5 (jl (λv h' hk=>by have:=hk.2.2;rwa [aKF] at this) hmv)
  have q:wpOp P ops Q i (wpAny P .any ops Q (l.length+RY.length) (listed.setIfInBounds i true)) a w:=ud hT ops (λenv' h' a' w' μ' S' hk mj=>hY l dw _ env' h' a' w' μ' S' hc.y bc ⟨by simpa using jO,r1,r2⟩ hk mj) i oi IV am9 env h a w μ S Eb hs
  rw [hn,<-hlen] at q
  exact q
theorem wm {ops:Array Oper} {t:List (Nat×List Nat)}:∀(l A:List (Nat×Bool)),db ops t (l++A)=true->db ops t l=true
 | [],_,_=>rfl
 | p::l,A,h=>by
  simp only [aKY,db,At,aKd] at h ⊢
  exact ⟨λq hq=>h.1 q (List.mem_append_left _ hq),wm l A h.2⟩
theorem GZ {ops:Array Oper} {t:List (Nat×List Nat)} {ord:List (Nat×Bool)} {x y:Nat} {RX RY:List Nat} (h:abY ops t ord x y RX RY=true):
  RX.length=RY.length/\(∀p,p∈ord->jt ops t p (x,false)=true/\jt ops t p (y,false)=true/\(∀d,d∈dX ops.toList p.1->d∉x::RX)/\p.1∉x::RX)/\(∀j,j∈x::RX↔j∈y::RY)/\
  (∀d,d∈dX ops.toList x->d∉x::RX)/\x∉RX/\y∉RY/\(∀j,j∈RX->j=y\/pM (gw t j) x=true\/pM (gw t j) y=true):=by
 unfold abY at h
 simp only [At] at h
 obtain ⟨⟨⟨⟨⟨⟨⟨h1,h2⟩,h3⟩,h4⟩,h5⟩,h6⟩,h7⟩,h8⟩:=h
 rw [aKd] at h2 h3 h4 h5 h8
 have no:∀(L:List Nat) (z:Nat),(!(pM L z))=true->z∉L:=λL z hz hm=>by rw [zp _ _ hm] at hz;cases hz
 refine ⟨No h1,λp hp=>?_,λj=>⟨λhj=>rD _ _ (h3 j hj),λhj=>rD _ _ (h4 j hj)⟩,λd hd=>no _ _ (h5 d hd),no _ _ h6,no _ _ h7,λj hj=>?_⟩
 ·have:=h2 p hp
  rw [At,At,At,aKd] at this
  exact ⟨this.1.1.1,this.1.1.2,λd IW=>no _ _ (this.1.2 d IW),no _ _ this.2⟩
 ·have:=h8 j hj
  rw [aLi,aLi] at this
  rcases this with (q | q) | q
  ·exact .inl (No q)
  ·exact .inr (.inl q)
  ·exact .inr (.inr q)
def afn (P:Program) (T:qq) (all:List Oper) (t:List (Nat×List Nat)) (K:Env->List al->Prop) (fin:List (Nat×Bool)):rE->List (Nat×List Nat)->Env->List al->Prop
 | []=>λdw env h=>PM P T all t K fin dw env h
 | c::r=>λdw env h=>mM P T all t (λdw env h=>mM P T all t (afn P T all t K fin r) [(c.2.1,false)] dw env h/\mM P T all t (λdw env h=>PM P T all t K c.2.2.2 dw env h) [(c.2.2.1,false)] dw env h) c.1 dw env h
theorem Ee {all:List Oper} {t:List (Nat×List Nat)} {K:Env->List al->Prop} {fin:List (Nat×Bool)}:∀(cs:rE),uF (afn P T all t K fin cs)
 | []=>AD fin
 | c::r=>qK (GY (qK (Ee r) _) (qK (AD c.2.2.2) _)) c.1
theorem RC {all:List Oper} {t:List (Nat×List Nat)} {K:Env->List al->Prop} {fin:List (Nat×Bool)}:∀(cs:rE) (dw:List (Nat×List Nat)) (env:Env) (h:List al),fwC P T all t K fin cs dw env h->afn P T all t K fin cs dw env h
 | [],dw,env,h,q=>th _ _ _ _ q
 | c::r,dw,env,h,q=>rF (λdw env h q=>⟨rF (RC r) _ dw env h q.1,th _ _ _ _ q.2⟩) c.1 dw env h q
def cbC (ops:Array Oper) (t:List (Nat×List Nat)) (fin:List (Nat×Bool)):rE->List (Nat×Bool)->Prop
 | []=>λl=>db ops t (l++fin)=true
 | c::r=>λl=>BrC ops t c.2.1 c.2.2.1 (c.2.1::(FP r fin).map (·.1)) (cbC ops t fin r) (λl=>db ops t (l++c.2.2.2)=true) (l++c.1)
theorem RD {ops:Array Oper} {t:List (Nat×List Nat)} {fin:List (Nat×Bool)}:∀(cs:rE) (l1:List (Nat×Bool)) (p:Nat×Bool) (l2:List (Nat×Bool)),cbC ops t fin cs (l1++p::l2)->cbC ops t fin cs (l1++l2)
 | [],l1,p,l2,q=>by
  have q:db ops t ((l1++p::l2)++fin)=true:=q
  show db ops t ((l1++l2)++fin)=true
  rw [aKy] at q ⊢
  exact (lp l1 _ q).2
 | c::r,l1,p,l2,q=>by
  obtain ⟨q1,q2,q3,q4⟩:=q
  rw [aKy l1] at q1 q3
  have q4:db ops t ((l1++p::l2++c.1)++c.2.2.2)=true:=q4
  rw [aKy l1 (p::l2) c.1] at q4
  have e:l1++l2++c.1=l1++(l2++c.1):=aKy _ _ _
  show BrC ops t c.2.1 c.2.2.1 (c.2.1::(FP r fin).map (·.1)) (cbC ops t fin r) (λl=>db ops t (l++c.2.2.2)=true) (l1++l2++c.1)
  rw [e]
  refine ⟨(lp l1 _ q1).2,λs hs=>q2 s ?_,RD r l1 p (l2++c.1) q3,?_⟩
  ·simp only [aKj,aKo] at hs ⊢
   rcases hs with hs | hs | hs
   ·exact .inl (.inl hs)
   ·exact .inl (.inr (.inr hs))
   ·exact .inr hs
  ·have q4:db ops t ((l1++(p::l2++c.1))++c.2.2.2)=true:=q4
   show db ops t ((l1++(l2++c.1))++c.2.2.2)=true
   rw [aKy] at q4 ⊢
   exact (lp l1 _ q4).2
theorem afo {ops:Array Oper} {t:List (Nat×List Nat)} {fin:List (Nat×Bool)}:∀(cs:rE) (l:List (Nat×Bool)),cbC ops t fin cs l->db ops t l=true
 | [],l,q=>wm _ _ q
 | c::r,l,q=>wm _ _ q.pw
theorem abZ {ops:Array Oper} {t:List (Nat×List Nat)} {fin:List (Nat×Bool)}:∀(cs:rE) (pre:List (Nat×Bool)),TT ops t fin cs pre=true->cbC ops t fin cs pre
 | [],pre,q=>q
 | c::r,pre,q=>by
  have q:(abY ops t (pre++c.1) c.2.1 c.2.2.1 ((FP r fin).map (·.1)) (c.2.2.2.map (·.1))&&db ops t ((pre++c.1)++c.2.2.2)&&TT ops t fin r (pre++c.1))=true:=q
  simp only [At] at q
  obtain ⟨⟨q1,q2⟩,q3⟩:=q
  obtain ⟨b1,b2,b3,b4,b5,b6,b7⟩:=GZ q1
  have ih:=abZ r _ q3
  exact ⟨afo r _ ih,b2,ih,q2⟩
theorem ab0 (hT:fe P T) (ops:Array Oper) {t:List (Nat×List Nat)} (nF:∀i x,pM (gw t i) x=true->MO ops.toList x i) (tf:∀i,i<ops.size->∀d,d∈dX ops.toList i->d<ops.size/\d≠i)
  {K:Env->List al->Prop} {Q:Exit->Act->World->Prop} (hK:∀env h a w μ S,K env h->pg C μ h S env a w->Q .normal a w) (hd:∀o∈ops.toList,qI C.nt o=true) (fin:List (Nat×Bool)):
  ∀(cs:rE) (pre:List (Nat×Bool)),TT ops t fin cs pre=true->(∀p,p∈FP cs fin->p.1<ops.size)->Snd P T C ops t Q (afn P T ops.toList t K fin cs) ((FP cs fin).map (·.1)) (cbC ops t fin cs)
 | [],pre,_,bc=>RB (C:=C) hT ops nF tf hK hd fin bc
 | c::r,pre,q,bc=>by
  have q:(abY ops t (pre++c.1) c.2.1 c.2.2.1 ((FP r fin).map (·.1)) (c.2.2.2.map (·.1))&&db ops t ((pre++c.1)++c.2.2.2)&&TT ops t fin r (pre++c.1))=true:=q
  simp only [At] at q
  obtain ⟨⟨q1,q2⟩,q3⟩:=q
  obtain ⟨b1,b2,b3,b4,b5,b6,b7⟩:=GZ q1
  have bc:∀p,p∈c.1++(c.2.1,false)::FP r fin->p.1<ops.size:=bc
  have hx:c.2.1<ops.size:=bc (c.2.1,false) aNf
  have hr:∀p,p∈FP r fin->p.1<ops.size:=λp hp=>bc p (by simp [hp])
  have mid:∀j,j∈c.2.1::(FP r fin).map (·.1)->j<ops.size:=λj hj=>by
   rcases aKo.1 hj with rfl | hj
   ·exact hx
   ·obtain ⟨p,hp,rfl⟩:=aKJ.1 hj
    exact hr p hp
  have sX:=ab0 hT ops nF tf hK hd fin r (pre++c.1) q3 hr
  have sY:=RB (C:=C) hT ops nF tf hK hd c.2.2.2 (λp hp=>mid p.1 ((b3 p.1).2 (aKz _ (aKJ.2 ⟨p,hp,rfl⟩))))
  have br:=am8 (C:=C) hT ops nF tf hd (x:=c.2.1) (y:=c.2.2.1) (Ee r) (AD c.2.2.2) sX sY (RD r) (λl1 p l2 q=>by
   rw [aKy] at q ⊢
   exact (lp l1 _ q).2) b1 b3 hx b4 b5 b6 b7
  have out:=afm br c.1 (λp hp=>bc p (by simp [hp]))
  have e:(FP (c::r) fin).map (·.1)=c.1.map (·.1)++c.2.1::(FP r fin).map (·.1):=by
   show (c.1++(c.2.1,false)::FP r fin).map (·.1)=_
   simp
  rw [e]
  exact out
theorem TU (hT:fe P T) (ops:Array Oper) {cs:rE} {fin:List (Nat×Bool)} (hc:Ef ops cs fin=true)
  {K:Env->List al->Prop} {Q:Exit->Act->World->Prop} (hK:∀env h a w μ S,K env h->pg C μ h S env a w->Q .normal a w) (hd:∀o∈ops.toList,qI C.nt o=true) {env:Env} {h:List al} {a:Act} {w:World}
  (hf:fwC P T ops.toList (IS ops.toList (FP cs fin) []) K fin cs [] env h) (hs:pg C μ h S env a w):wpAny P .any ops Q ops.size (Array.replicate ops.size false) a w:=by
 unfold Ef at hc
 simp only [At] at hc
 obtain ⟨⟨⟨hlen,hcv⟩,tR⟩,hcb⟩:=hc
 rw [aKd] at hcv tR
 have hlen:=No hlen
 generalize ht:IS ops.toList (FP cs fin) []=t at*
 have nF:∀i x,pM (gw t i) x=true->MO ops.toList x i:=by rw [<-ht];exact AB _ [] (λi x hx=>by simp [gw,pM] at hx)
 have bc:∀p,p∈FP cs fin->p.1<ops.size:=λp hp=>by
  have:=tR p hp
  rw [At] at this
  exact aKw this.1
 have PQ:∀j,j<ops.size->j∈(FP cs fin).map (·.1):=λj hj=>rD _ _ (hcv j (aLL.2 hj))
 have tf:∀i,i<ops.size->∀d,d∈dX ops.toList i->d<ops.size/\d≠i:=λi hi d IW=>by
  obtain ⟨p,hp,rfl⟩:=aKJ.1 (PQ i hi)
  have:=tR p hp
  rw [At,aKd] at this
  have:=this.2 d IW
  rw [At] at this
  exact ⟨aKw this.1,λhe=>by rw [he,aLp] at this;cases this.2⟩
 have out:=ab0 (C:=C) hT ops nF tf hK hd fin cs [] hcb bc
 have:=out [] [] (Array.replicate ops.size false) env h a w μ S (abZ cs [] hcb) (λp hp=>by simp at hp)
  ⟨by simp,λj hj=>⟨λ_=>by simpa using PQ j hj,λ_=>by simp [Array.getD,hj]⟩,λj hj hn=>absurd (PQ j hj) (by simpa using hn)⟩
  (RC cs [] env h hf) hs
 have e:([]:List (Nat×Bool)).length+((FP cs fin).map (·.1)).length=ops.size:=by simpa using hlen
 rw [e] at this
 exact this
theorem afp {J:List (Nat×PV)->List al->Prop} {env:Env} {h:List al} {a:Act} {w:World} (hg:zj C.h.length J env h):∀{μ:Mu} {S:Nat->Prop},pg C μ h S env a w->∃σ η μ3 S3,pg C μ3 η S3 (BQ pW σ) a w/\J σ η:=by
 induction hg with
 | mk σ η ht hj=>
  intro μ S hs
  obtain ⟨μ3,S3,x7⟩:=GW hs ht
  exact ⟨σ,η,μ3,S3,x7,hj⟩
 | ex h1 hx hk ih=>
  intro μ S hs
  obtain ⟨μ1,ed⟩:=hs.ex hx
  exact ih ed
 | ab id i j sub h1 ha hk ih=>
  intro μ S hs
  obtain ⟨F,ed⟩:=hs.ab ha
  exact ih F ed
theorem afq {m:Nat} {A B:XQ->Env->List al->Prop} {Q:XQ} {env:Env} {h:List al} {a:Act} {w:World} {S:Nat->Prop} (hv:vN m A B Q env h):∀{μ:Mu},pg C μ h S env a w->
  ∃μ' h',pg C μ' h' S env a w/\(A (XQ.then (B Q) Q) env h'\/∃J,A (XQ.then (zj m J) Q) env h'/\∀σ η,J σ η->B Q (BQ pW σ) η):=by
 induction hv with
 | direct hd=>exact λhs=>⟨_,_,hs,.inl hd⟩
 | cut J ha hb=>exact λhs=>⟨_,_,hs,.inr ⟨J,ha,hb⟩⟩
 | ex h1 hx hk ih=>
  intro μ hs
  obtain ⟨μ1,ed⟩:=hs.ex hx
  exact ih ed
 | ab id i j sub h1 ha hk ih=>
  intro μ hs
  obtain ⟨F,ed⟩:=hs.ab ha
  exact ih F ed
theorem nG (hT:fe P T) (AE:P.follows .mixedOrders=true):∀(c:Code) (Q:XQ) (env:Env) (h:List al) (a:Act) (w:World) (μ:Mu) (S:Nat->Prop),
  vc P T C.h.length c Q env h->codeOk C.nt c=true->pg C μ h S env a w->c.wp P (D5 C Q) a w
 | .skip,Q,env,h,a,w,μ,S,hv,_,hs=>wp_skip ⟨μ,h,S,env,hs,hv⟩
 | .label _,Q,env,h,a,w,μ,S,hv,_,hs=>wp_label ⟨μ,h,S,env,hs,hv⟩
 | .exit _,Q,env,h,a,w,μ,S,hv,_,hs=>wp_exit ⟨μ,h,S,env,hs,hv⟩
 | .ret,Q,env,h,a,w,μ,S,hv,_,hs=>wp_ret ⟨μ,h,S,env,hs,hv⟩
 | .region id ops d,Q,env,h,a,w,μ,S,hv,yu,hs=>by
  simp only [codeOk,At,aKd] at yu
  have hd:∀o∈ops.toList,qI C.nt o=true:=yu.1
  cases d with
  | false=>
   refine wp_region_list (yf hT ops (Q:=D5 C Q) (λenv h a w μ S hq hs=>⟨μ,h,S,env,hs,hq⟩) ops.toList env h a w μ S hv hd hs)
  | true=>
   have quiet:yh P T ops.toList h (λenv'=>Q .normal env' h) ops.toList env->(Code.region id ops true).wp P (D5 C Q) a w:=λhv=>by
    refine wp_region_quiet (C:=c7 w) AE (by simpa using yu.2) (c7.drew w) ?_
    exact uc hT ops h w μ S (λenv a hq hs w' hw'=>⟨μ,h,S,env,hs.agree hw',hq⟩) ops.toList env a hv hd hs
   have hv:(match ops.toList.all (λo=>G0 o.op) with
    | true=>yh P T ops.toList h (λenv'=>Q .normal env' h) ops.toList env
    | false=>Eg P T C.h.length ops (λenv' h'=>Q .normal env' h') env h):=hv
   split at hv
   ·exact quiet hv
   ·cases hv with
    | quiet hq=>exact quiet hq
    | CQ cs fin hc hf=>
     refine wp_region_any AE ?_
     exact TU (C:=C) hT ops hc (K:=ahv Q) (Q:=D5 C Q) (λenv h a w μ S hq hs=>⟨μ,h,S,env,hs,hq⟩) hd hf (hs.agree (c7.drew w))
    | float ord hc hf=>
     refine wp_region_any AE ?_
     unfold RE at hc
     simp only [At,aKd,aKN] at hc
     obtain ⟨⟨⟨hlen,hcv⟩,tR⟩,hpo⟩:=hc
     have hlen:=No hlen
     have bc:∀p,p∈ord->p.1<ops.size:=λp hp=>aKw (tR p hp).1
     have hnd:(ord.map (·.1)).Nodup:=by
      have:∀(l:List (Nat×Bool)),db ops (IS ops.toList ord []) l=true->(l.map (·.1)).Nodup:=λl=>by
       induction l with
       | nil=>simp
       | cons p r ih=>
        intro hh
        simp only [db,At,aKd] at hh
        simp only [aKp,List.nodup_cons]
        refine ⟨λhm=>?_,ih hh.2⟩
        obtain ⟨q,hq,he⟩:=aKJ.1 hm
        have:=hh.1 q hq
        unfold jt at this
        simp only [At,aKN] at this
        have:=this.1.1
        rw [he,aLp] at this
        cases this
      exact this _ hpo
     have PQ:∀j,j<ops.size->j∈ord.map (·.1):=λj hj=>rD _ _ (hcv j (aLL.2 hj))
     exact IU hT ops (C:=C) (AB ord [] (λi x hx=>by simp [gw,pM] at hx)) (λi hi d IW=>by
      obtain ⟨p,hp,rfl⟩:=aKJ.1 (PQ i hi)
      have:=(tR p hp).2 d IW
      exact ⟨aKw this.1,λhe=>by rw [he,aLp] at this;cases this.2⟩)
      (K:=λenv' h'=>Q .normal env' h') (Q:=D5 C Q) (λenv h a w μ S hq hs=>⟨μ,h,S,env,hs,hq⟩) hd ops.size ord [] _ env h a _ μ S hlen hpo bc aNf (λj hj=>⟨λ_=>PQ j hj,λ_=>by simp [Array.getD,hj]⟩) (λj hj hn=>absurd (PQ j hj) hn) (th _ _ _ _ hf) (hs.agree (c7.drew w))
 | .seq x y,Q,env,h,a,w,μ,S,hv,yu,hs=>by
  simp only [codeOk,At] at yu
  have hv:vN C.h.length (vc P T C.h.length x) (vc P T C.h.length y) Q env h:=hv
  obtain ⟨μ,h,hs,hd | ⟨J,ha,hb⟩⟩:=afq hv hs
  ·refine wp_seq (Code.wp_mono (λe a' w' hl=>?_) (nG hT AE x _ env h a w μ S hd yu.1 hs))
   cases e with
   | normal=>
    obtain ⟨μ',h',S',env',mj,hq⟩:=hl
    exact nG hT AE y Q env' h' a' w' μ' S' hq yu.2 mj
   | exit id=>exact hl
   | goto l=>exact hl
   | ret=>exact hl
   | panic ch=>exact hl
   | outgrown=>exact hl
  ·refine wp_seq (Code.wp_mono (λe a' w' hl=>?_) (nG hT AE x _ env h a w μ S ha yu.1 hs))
   cases e with
   | normal=>
    obtain ⟨μ',h',S',env',mj,hg⟩:=hl
    obtain ⟨σ,η,μ3,S3,x7,hj⟩:=afp hg mj
    exact nG hT AE y Q _ η a' w' μ3 S3 (hb σ η hj) yu.2 x7
   | exit id=>exact hl
   | goto l=>exact hl
   | ret=>exact hl
   | panic ch=>exact hl
   | outgrown=>exact hl
 | .cond c x y,Q,env,h,a,w,μ,S,hv,yu,hs=>by
  simp only [codeOk,At] at yu
  have hv:(match ev env c with
   | .bool t=>gJ t (vc P T C.h.length x Q env h) (vc P T C.h.length y Q env h)
   | _=>False):=hv
  have hc:=dq hs.tmps c
  split at hv
  ·rename_i b he
   rw [he] at hc
   obtain ⟨h1,h2⟩:=kV hv
   exact wp_cond_split hc.ns (λhb=>nG hT AE x Q env h a w μ S (h1 hb) yu.1 hs) (λhb=>nG hT AE y Q env h a w μ S (h2 hb) yu.2 hs)
  ·exact hv.elim
 | .block id c,Q,env,h,a,w,μ,S,hv,yu,hs=>by
  refine wp_block (Code.wp_mono (λe a' w' hl=>?_) (nG hT AE c _ env h a w μ S hv yu hs))
  cases e with
  | exit id'=>
   obtain ⟨μ',h',S',env',mj,hq⟩:=hl
   show if id'=id then D5 C Q .normal a' w' else D5 C Q (.exit id') a' w'
   simp only [XQ.inBlock] at hq
   by_cases hid:id'=id
   ·rw [if_pos hid]
    subst hid
    rw [show Nat.beq id' id'=true by simp] at hq
    exact ⟨μ',h',S',env',mj,hq⟩
   ·rw [if_neg hid]
    have:Nat.beq id' id=false:=by
     cases hb:Nat.beq id' id with
     | true=>exact (hid (No hb)).elim
     | false=>rfl
    rw [this] at hq
    exact ⟨μ',h',S',env',mj,hq⟩
  | normal=>exact hl
  | goto l=>exact hl
  | ret=>exact hl
  | panic ch=>exact hl
  | outgrown=>exact hl
 | .loop c,Q,env,h,a,w,μ,S,hv,yu,hs=>by
  intro b k cs
  replace hv:ru C.h.length (λnext=>vc P T C.h.length c (XQ.then next Q)) env h:=hv
  have key:∀(a:Act) (w:World) (μ:Mu) (S:Nat->Prop),pg C μ h S env a w->∃e a' w',D5 C Q e a' w'/\Arrives P (lone (b.at a (.code c::.inLoop c::k)) cs w) b k cs e a' w':=by
   clear hs
   induction hv with
   | take σ η ht hk ih=>
    intro a w μ S hs
    obtain ⟨μ0,S0,hs0⟩:=GW hs ht
    exact ih a w μ0 S0 hs0
   | ex h1 hx hk ih=>
    intro a w μ S hs
    obtain ⟨μ1,ed⟩:=hs.ex hx
    exact ih a w μ1 S ed
   | ab id i j sub h1 ha hk ih=>
    intro a w μ S hs
    obtain ⟨F,ed⟩:=hs.ab ha
    exact ih F a w μ S ed
   | step N hN hb ih=>
    intro a w μ S hs
    obtain ⟨e,a₁,w₁,hq,Mn⟩:=nG hT AE c _ _ _ a w μ S hb yu hs b (.inLoop c::k) cs
    cases e with
    | normal=>
     obtain ⟨μ2,h2,S2,aJZ,nJ,hn⟩:=hq
     obtain ⟨e₂,a₂,w₂,hq₂,harr₂⟩:=ih _ _ hn a₁ w₁ μ2 S2 nJ
     exact ⟨e₂,a₂,w₂,hq₂,.of_steps (Steps.trans Mn (.one step_inLoop)) harr₂⟩
    | exit id=>exact ⟨_,a₁,w₁,hq,.pass (x:=.inLoop c) rfl (λ_ _=>.inl aNf) Mn⟩
    | goto l=>exact ⟨_,a₁,w₁,hq,.pass (x:=.inLoop c) rfl (λ_ _=>.inl aNf) Mn⟩
    | ret=>exact ⟨_,a₁,w₁,hq,.pass (x:=.inLoop c) rfl (λ_ _=>.inl aNf) Mn⟩
    | panic ch=>exact ⟨_,a₁,w₁,hq,.pass (x:=.inLoop c) rfl (λ_ _=>.inl aNf) Mn⟩
    | outgrown=>exact ⟨_,a₁,w₁,hq,.pass (x:=.inLoop c) rfl (λ_ _=>.inl aNf) Mn⟩
  obtain ⟨e,a',w',hq,Mn⟩:=key a w μ S hs
  exact ⟨e,a',w',hq,.of_steps (.one step_loop) Mn⟩
 | .rangeFunc _ _ _ _,Q,env,h,a,w,μ,S,hv,_,_=>hv.elim
 | .scope _,Q,env,h,a,w,μ,S,hv,_,_=>hv.elim
 | .goto _,Q,env,h,a,w,μ,S,hv,_,_=>hv.elim
 | .refuse _,Q,env,h,a,w,μ,S,hv,_,_=>hv.elim
theorem ab1 (hT:fe P T) (hH:de μ h S w) (t:Nat) (px:PV) (v:Value) (hx:cj μ h S w px v) {K:PV->Prop} (hp:ze T t px h K):∃pv val,K pv/\cj μ h S w pv val/\(do loadVar t (<-asAddr v):Sem Value).run P w=.ok val w:=by
 obtain ⟨pv,val,hK,hv,hr⟩:=Dv (P:=P) (dst:=none) (ty:=0) (pos:= "") (after:=#[]) (guard:=none) (a:=⟨#[v],[]⟩) hT hH t (.tmp 0) px (by simpa [Act.eval] using hx) hp
 refine ⟨pv,val,hK,hv,?_⟩
 have:=hr w (c7.refl w)
 have he:(execOp (Act.eval ⟨#[v],[]⟩) ⟨none,.load t (.tmp 0),0, "",#[],none⟩)=(do pure (Next.value (<-Instr.loadAt t v)):Sem Next):=rfl
 rw [he] at this
 have aIl:∃ad,v=.pointer (some ad):=by
  unfold ze at hp
  split at hp
  ·obtain ⟨b,off,vf,e1,_⟩:=hx.zb;exact ⟨_,e1⟩
  ·rename_i id gen i off
   split at hp
   ·rename_i g sz n e f hg
    obtain ⟨rfl,_⟩:=hp
    have hr:=hx.vH
    unfold cN at hr
    rw [fY hg] at hr
    obtain ⟨_,_,hr⟩:=hr
    obtain ⟨_,b,base,_,_,hv⟩:=hr rfl
    exact ⟨_,hv⟩
   ·exact aMG
  ·exact aMG
 obtain ⟨ad,rfl⟩:=aIl
 simp only [Instr.loadAt,Instr.sureAddr,asAddr,Sem.run_bind,Sem.run_pure,Result.andThen_ok] at this ⊢
 cases hl:(loadVar t ad).run P w with
 | ok u w'=>
  rw [hl] at this
  simp only [Result.andThen] at this
  injection this with h1 h2
  injection h1 with h1
  rw [h1,h2]
 | halt x w'=>rw [hl] at this;cases this
theorem rZ (hT:fe P T) (hs:pg C μ h S env a w):∀(rs:List ResultVar) (K:List PV->Prop),wJ T env h rs K->∃(vs:List PV) (us:List Value),K vs/\us.length=vs.length/\(∀(j:Nat) (pv:PV),vs[j]? =some pv->∃u,us[j]? =some u/\cj μ h S w pv u)/\
  (rs.mapM (fun | .tmp t=>pure (a.tmps.getD t undef) | .cell ad t=>(do loadVar t (<-asAddr (a.tmps.getD ad undef))):ResultVar->Sem Value)).run P w=.ok us w
 | [],K,hp=>⟨[],[],hp,rfl,λj pv hj=>by simp at hj,rfl⟩
 | .tmp t::r,K,hp=>by
  obtain ⟨vs,us,hK,h1,h2,h3⟩:=rZ hT hs r _ hp
  refine ⟨env t::vs,a.tmps.getD t undef::us,hK,by simp [h1],λj pv hj=>?_,?_⟩
  ·cases j with
   | zero=>simp at hj;subst hj;exact ⟨_,rfl,hs.tmps t⟩
   | succ j=>simp at hj;obtain ⟨u,q1,q2⟩:=h2 j pv hj;exact ⟨u,by simpa using q1,q2⟩
  ·simp only [List.mapM_cons,Sem.run_bind,Sem.run_pure,Result.andThen_ok,h3]
 | .cell ad t::r,K,hp=>by
  obtain ⟨pv,val,hK,hv,hr⟩:=ab1 hT hs.core.heap t _ _ (hs.tmps ad) hp
  obtain ⟨vs,us,hK,h1,h2,h3⟩:=rZ hT hs r _ hK
  refine ⟨pv::vs,val::us,hK,by simp [h1],λj gy hj=>?_,?_⟩
  ·cases j with
   | zero=>simp at hj;subst hj;exact ⟨_,rfl,hv⟩
   | succ j=>simp at hj;obtain ⟨u,q1,q2⟩:=h2 j gy hj;exact ⟨u,by simpa using q1,q2⟩
  ·simp only [List.mapM_cons,Sem.run_bind,hr,Result.andThen_ok,h3,Sem.run_pure]
end
section
variable {P:Program} {T:qq}
def valOf:List Value->Value
 | [v]=>v
 | us=>.tuple us.toArray
theorem Mo {fn:Func} {tmps:Array Value} {us:List Value} {w:World}
  (hm:(fn.results.toList.mapM (fun | .tmp t=>pure (tmps.getD t undef) | .cell ad t=>(do loadVar t (<-asAddr (tmps.getD ad undef))):ResultVar->Sem Value)).run P w=.ok us w):
  (results fn tmps).run P w=.ok (valOf us) w:=by
 unfold results
 rw [Array.mapM_eq_mapM_toList]
 simp only [map_eq_pure_bind,bind_assoc,pure_bind,Sem.run_bind]
 have key:∀X:Result (List Value),X=.ok us w->(X.andThen λa w'=>Sem.run P (pure (if h:a.toArray.size=1 then a.toArray[0] else Value.tuple a.toArray)) w')=.ok (valOf us) w:=by
  rintro _ rfl
  simp only [Result.andThen_ok,Sem.run_pure]
  congr 1
  match us with
  | []=>rfl
  | [v]=>rfl
  | v::u::r=>simp [valOf]
 exact key _ hm
theorem ab2 {C:Start} {m:Nat} {R:PV->List al->Prop} {env:Env} {h:List al} {a:Act} {w:World} {S:Nat->Prop} {vs:List PV} {us:List Value} (hE:Ends m R h vs):∀{μ:Mu},pg C μ h S env a w->
  (∀(j:Nat) (pv:PV),vs[j]? =some pv->∃u,us[j]? =some u/\cj μ h S w pv u)->∃μ' h',pg C μ' h' S env a w/\(∀(j:Nat) (pv:PV),vs[j]? =some pv->∃u,us[j]? =some u/\cj μ' h' S w pv u)/\
   vs.all nA=true/\∃(k:List Nat) (res:PV) (η:List al),pC (pc η k)=true/\m<=k.length/\Fz h' η k (oneOf vs) res/\lL h' η k m 0 η k/\R res η:=by
 induction hE with
 | mk hn k res η hk hm hz hh hR=>exact λhs h2=>⟨_,_,hs,h2,hn,k,res,η,hk,hm,hz,hh,hR⟩
 | ex h1 hx hk ih=>
  intro μ hs h2
  obtain ⟨μ1,hf,hc⟩:=RA hs.core hx
  exact ih (hs.turn hf hc) (λj pv hj=>let ⟨u,q1,q2⟩:=h2 j pv hj;⟨u,q1,q2.fr hf hs.core.ok⟩)
 | ab id i j sub h1 ha hk ih=>
  intro μ hs h2
  obtain ⟨hf,hc⟩:=HM hs.core (ha (FAb μ _ sub))
  exact ih _ (hs.turn hf hc) (λj pv hj=>let ⟨u,q1,q2⟩:=h2 j pv hj;⟨u,q1,q2.fr hf hs.core.ok⟩)
theorem ACall.aCl (hT:fe P T) (AE:P.follows .mixedOrders=true) {f:FuncId} {fn:Func} {c:Code} (hf:P.funcs[f]? =some fn) (hb:fn.body=some c) (zk:(fn.name== "runtime.NumGoroutine")=false)
  (args:List PV) (h:List al) (R:PV->List al->Prop) (hn:Nat.ble args.length fn.ntmps=true) (yu:codeOk fn.ntmps c=true)
  (hv:vc P T h.length c (aCk T fn.results.toList h.length R) (vW args) h):ACall P f args h R:=by
 refine ⟨⟨fn,c,hf,hb,zk⟩,λw vs μ S hH hM jO mB=>?_⟩
 have hn:=aKw hn
 let C:Start:=⟨μ,h,S,w,fn.ntmps⟩
 have hs:pg C μ h S (vW args) ⟨vs++Array.replicate (fn.ntmps - vs.size) undef,[]⟩ w:=by
  refine ⟨⟨hH,hM⟩,Fr.refl,λt=>?_,by simp;show _=fn.ntmps;omega,λt ht=>?_,rfl⟩
  ·unfold vW
   rw [aKb]
   cases ha:args[t]? with
   | none=>trivial
   | some pv=>
    obtain ⟨v,h1,h2⟩:=mB t pv ha
    have bc:t<vs.size:=(abF.1 h1).1
    have:(vs++Array.replicate (fn.ntmps - vs.size) undef).getD t undef=v:=by
     rw [Array.getD_eq_getD_getElem?,aKU bc,h1];rfl
    simp only [aLR]
    rw [this]
    exact cj.afl h2
  ·unfold vW
   rw [aKb,aKM]
   ·rfl
   ·exact aKW hn ht
 refine calls_of_wp hf hb ?_
 refine Code.wp_mono (λe a' w' hl=>?_) (nG (C:=C) hT AE c _ _ h _ w μ S hv yu hs)
 obtain ⟨μ',h',S',env',mj,hq⟩:=hl
 have fin:wJ T env' h' fn.results.toList (Ends h.length R h')->a'.defers=[]/\∃v,(results fn a'.tmps).run P w'=.ok v w'/\
   (∃(v':Value) (res:PV) (h'':List al) (μ'':Mu) (S'':Nat->Prop),Ending.returned v=.returned v'/\R res h''/\cj μ'' h'' S'' w' res v'/\de μ'' h'' S'' w'/\tQ μ'' h'' S'' w'/\Fr μ h S w μ'' h'' S'' w'):=λhr=>by
  obtain ⟨vs',us,hE,h1,h2,h3⟩:=rZ hT mj _ _ hr
  refine ⟨mj.defers,_,Mo h3,?_⟩
  obtain ⟨μ',h',mj,h2,hnt,k,res,η,hk,hm,hz,hh,hR⟩:=ab2 hE mj h2
  have hvr:cj μ' h' S' w' (oneOf vs') (valOf us):=by
   have key:(∀v,vs'≠[v])->cj μ' h' S' w' (oneOf vs') (valOf us):=λoY=>by
    have e1:oneOf vs'=.fM vs':=by
     match vs',oY with
     | [],_=>rfl
     | [v],oY=>exact (oY v rfl).elim
     | a::b::r,_=>rfl
    have e2:valOf us=.tuple us.toArray:=by
     match us,h1 with
     | [],_=>rfl
     | [v],h1=>
      match vs',h1,oY with
      | [x],_,oY=>exact (oY x rfl).elim
     | a::b::r,_=>rfl
    rw [e1,e2]
    refine ⟨_,rfl,by simpa using h1,λj pv hj=>?_⟩
    obtain ⟨u,q1,q2⟩:=h2 j pv hj
    refine ⟨u,by simpa using q1,?_⟩
    have hp:nA pv=true:=(aKd.1 hnt) pv (aKl hj)
    cases pv with
    | fM ps=>cases hp
    | _=>exact q2
   match vs',us,h1 with
   | [v],[u],_=>
    obtain ⟨u',q1,q2⟩:=h2 0 v rfl
    simp at q1
    subst q1
    exact q2
   | [],us,_=>exact key (λv hv=>by cases hv)
   | a::b::r,us,_=>exact key (λv hv=>by cases hv)
  obtain ⟨uD,_,_⟩:=zo mj.core hh hk
  exact ⟨_,res,η,mA μ' h' k,GU μ' h' k S',rfl,hR,(wg mj.core hh hz).2.2 _ hvr,uD.heap,uD.ok,aht (C:=C) mj.core mj.fr hh hk hm⟩
 cases e with
 | ret=>exact fin hq
 | normal=>exact fin hq
 | exit id=>exact hq.elim
 | goto l=>exact hq.elim
 | panic ch=>exact hq.elim
 | outgrown=>exact hq.elim
theorem ACall.mono {f:FuncId} {args:List PV} {h:List al} {R R':PV->List al->Prop} (hc:ACall P f args h R) (hr:∀res h',R res h'->R' res h'):ACall P f args h R':=
 ⟨hc.1,λw vs μ S hH hM jO ha=>(hc.2 w vs μ S hH hM jO ha).mono λe w' ⟨v,res,h',μ',S',he,hR,rest⟩=>⟨v,res,h',μ',S',he,hr _ _ hR,rest⟩⟩
end
def oA (N:Nat):PV->PV
 | .own id gen off len=>.own (N+id) gen off len
 | .aA id gen i off=>.aA (N+id) gen i off
 | .qv id=>.qv (N+id)
 | .se f df=>.se f (uf (N+·) df)
 | v=>v
def PR (N:Nat):PV->PV
 | .agg cs=>.agg (cs.map (oA N))
 | v=>oA N v
def tU (N:Nat):PV->PV
 | .fM vs=>.fM (vs.map (PR N))
 | v=>PR N v
def gQ (N:Nat):al->al
 | .row g sz n e f=>.row g sz n e (λi=>(f i).map (oA N))
 | .dead=>.dead
def Rd:PV->Bool
 | .agg cs=>cs.all cA
 | v=>cA v
def qA:PV->Bool
 | .ij _ _ _=>false
 | .gD _=>false
 | .dI _ _ _ _ _=>false
 | _=>true
def ahw:PV->Bool
 | .agg cs=>cs.all qA
 | v=>qA v
def Re:PV->Bool
 | .fM vs=>vs.all ahw
 | v=>ahw v
def ab3:al->Prop
 | .row _ _ n _ f=>∀i,i<n->(f i).all qA=true
 | .dead=>True
section
variable {P:Program} {T:qq} {μ μ0:Mu} {h h0:List al} {S S0 S':Nat->Prop} {w w':World}
def kx (μ:Mu) (N:Nat) (μ0:Mu):Mu:=λid=>if id<N then μ id else μ0 (id - N)
theorem Bg {N:Nat} {a:PV} (h:qs a=true):oA N a=a:=by cases a<;>first | rfl | cases h
theorem pX (N:Nat) (hN:h.length=N) (id:Nat):(h++h0.map (gQ N))[N+id]? =(h0[id]?).map (gQ N):=by
 subst hN
 rw [aKt aNc,aKT,aKq]
theorem ug (N id:Nat):kx μ N μ0 (N+id)=μ0 id:=by
 unfold kx
 rw [if_neg aNc,aKT]
theorem eW (G:PV->Prop) (hG:∀pv v,G pv->ba S0 w' pv v->ba S' w' pv v) {pv:PV} {v:Value} (hg:G pv) (hc:cQ μ0 h0 S0 w' pv v):
  cQ (kx μ h.length μ0) (h++h0.map (gQ h.length)) S' w' (oA h.length pv) v:=by
 have wo:∀(id gen i off:Nat) (v:Value),cN μ0 h0 w' id gen i off v->cN (kx μ h.length μ0) (h++h0.map (gQ h.length)) w' (h.length+id) gen i off v:=λid gen i off v hc=>by
  unfold cN at hc ⊢
  rw [pX _ rfl,ug]
  obtain ⟨h1,h2⟩:=hc
  refine ⟨h1,?_⟩
  cases ho:h0[id]? with
  | none=>rw [ho] at h2;exact h2
  | some o=>
   rw [ho] at h2
   cases o with
   | dead=>trivial
   | row g sz n e f=>exact h2
 cases pv with
 | own id gen off len=>
  have hc:bG μ0 h0 w' id gen off len v:=hc
  show bG _ _ _ (h.length+id) gen off len v
  unfold bG at hc ⊢
  rw [pX _ rfl,ug]
  obtain ⟨h1,h2⟩:=hc
  refine ⟨h1,?_⟩
  cases ho:h0[id]? with
  | none=>rw [ho] at h2;exact h2
  | some o=>
   rw [ho] at h2
   cases o with
   | dead=>trivial
   | row g sz n e f=>exact h2
 | aA id gen i off=>exact wo _ _ _ _ _ hc
 | se f df=>exact uU.map (O:=λid g u=>cN (kx μ h.length μ0) (h++h0.map (gQ h.length)) w' id g 0 0 u) (uU.mono (show qz μ0 h0 w' f df v from hc) (λid g u hu=>wo id g 0 0 u hu))
 | qv id=>
  have hc:iv μ0 h0 w' id v:=hc
  show iv _ _ _ (h.length+id) v
  unfold iv at hc ⊢
  rw [pX _ rfl,ug]
  obtain ⟨h1,h2⟩:=hc
  refine ⟨h1,?_⟩
  cases ho:h0[id]? with
  | none=>rw [ho] at h2;exact h2
  | some o=>
   rw [ho] at h2
   cases o with
   | dead=>trivial
   | row g sz n e f=>exact h2
 | jQ=>exact hc
 | dI sz n e f F=>exact hc
 | agg cs=>exact (show False from hc).elim
 | fM cs=>exact (show False from hc).elim
 | int k n=>exact hG _ _ hg hc
 | bool b=>exact hG _ _ hg hc
 | str s=>exact hG _ _ hg hc
 | ck=>exact hG _ _ hg hc
 | iF=>exact hG _ _ hg hc
 | ij sz n f=>exact hG _ _ hg hc
 | gD cs=>exact hG _ _ hg hc
 | fn f=>exact hG _ _ hg hc
theorem eX (G:PV->Prop) (hG:∀pv v,G pv->ba S0 w' pv v->ba S' w' pv v) {pv:PV} {v:Value} (hg:match pv with | .agg cs=>∀c∈cs,G c | v=>G v) (hc:kz μ0 h0 S0 w' pv v):
  kz (kx μ h.length μ0) (h++h0.map (gQ h.length)) S' w' (PR h.length pv) v:=by
 cases pv with
 | agg cs=>
  obtain ⟨vs,h1,h2,h3⟩:=hc
  refine ⟨vs,h1,by simpa using h2,λj pv hj=>?_⟩
  rw [aKq] at hj
  cases hx:cs[j]? with
  | none=>rw [hx] at hj;cases hj
  | some c=>
   rw [hx] at hj
   injection hj with hj
   subst hj
   obtain ⟨u,q1,q2⟩:=h3 j c hx
   exact ⟨u,q1,eW G hG (hg c (aKl hx)) q2⟩
 | jQ=>trivial
 | dI sz n e f F=>exact eW (μ:=μ) (μ0:=μ0) (h:=h) (h0:=h0) (pv:=.dI sz n e f F) G hG hg hc
 | fM cs=>exact (show False from hc).elim
 | own id gen off len=>exact eW (μ:=μ) (μ0:=μ0) (h:=h) (h0:=h0) (pv:=.own id gen off len) G hG hg hc
 | aA id gen i off=>exact eW (μ:=μ) (μ0:=μ0) (h:=h) (h0:=h0) (pv:=.aA id gen i off) G hG hg hc
 | qv id=>exact eW (μ:=μ) (μ0:=μ0) (h:=h) (h0:=h0) (pv:=.qv id) G hG hg hc
 | se f df=>exact eW (μ:=μ) (μ0:=μ0) (h:=h) (h0:=h0) (pv:=.se f df) G hG hg hc
 | int k n=>exact eW (μ:=μ) (μ0:=μ0) (h:=h) (h0:=h0) (pv:=.int k n) G hG hg hc
 | bool b=>exact eW (μ:=μ) (μ0:=μ0) (h:=h) (h0:=h0) (pv:=.bool b) G hG hg hc
 | str s=>exact eW (μ:=μ) (μ0:=μ0) (h:=h) (h0:=h0) (pv:=.str s) G hG hg hc
 | ck=>exact eW (μ:=μ) (μ0:=μ0) (h:=h) (h0:=h0) (pv:=.ck) G hG hg hc
 | iF=>exact eW (μ:=μ) (μ0:=μ0) (h:=h) (h0:=h0) (pv:=.iF) G hG hg hc
 | ij sz n f=>exact eW (μ:=μ) (μ0:=μ0) (h:=h) (h0:=h0) (pv:=.ij sz n f) G hG hg hc
 | gD cs=>exact eW (μ:=μ) (μ0:=μ0) (h:=h) (h0:=h0) (pv:=.gD cs) G hG hg hc
 | fn f=>exact eW (μ:=μ) (μ0:=μ0) (h:=h) (h0:=h0) (pv:=.fn f) G hG hg hc
def afr (G:PV->Prop):PV->Prop
 | .fM vs=>∀v∈vs,(match v with | .agg cs=>∀c∈cs,G c | v=>G v)
 | .agg cs=>∀c∈cs,G c
 | v=>G v
theorem Eh (G:PV->Prop) (hG:∀pv v,G pv->ba S0 w' pv v->ba S' w' pv v) {pv:PV} {v:Value} (hg:afr G pv) (hc:cj μ0 h0 S0 w' pv v):
  cj (kx μ h.length μ0) (h++h0.map (gQ h.length)) S' w' (tU h.length pv) v:=by
 cases pv with
 | fM cs=>
  obtain ⟨vs,h1,h2,h3⟩:=hc
  refine ⟨vs,h1,by simpa using h2,λj pv hj=>?_⟩
  rw [aKq] at hj
  cases hx:cs[j]? with
  | none=>rw [hx] at hj;cases hj
  | some c=>
   rw [hx] at hj
   injection hj with hj
   subst hj
   obtain ⟨u,q1,q2⟩:=h3 j c hx
   exact ⟨u,q1,eX G hG (hg c (aKl hx)) q2⟩
 | agg cs=>exact eX (μ:=μ) (μ0:=μ0) (h:=h) (h0:=h0) (pv:=.agg cs) G hG hg hc
 | jQ=>trivial
 | dI sz n e f F=>exact eX (μ:=μ) (μ0:=μ0) (h:=h) (h0:=h0) (pv:=.dI sz n e f F) G hG hg hc
 | own id gen off len=>exact eX (μ:=μ) (μ0:=μ0) (h:=h) (h0:=h0) (pv:=.own id gen off len) G hG hg hc
 | aA id gen i off=>exact eX (μ:=μ) (μ0:=μ0) (h:=h) (h0:=h0) (pv:=.aA id gen i off) G hG hg hc
 | qv id=>exact eX (μ:=μ) (μ0:=μ0) (h:=h) (h0:=h0) (pv:=.qv id) G hG hg hc
 | se f df=>exact eX (μ:=μ) (μ0:=μ0) (h:=h) (h0:=h0) (pv:=.se f df) G hG hg hc
 | int k n=>exact eX (μ:=μ) (μ0:=μ0) (h:=h) (h0:=h0) (pv:=.int k n) G hG hg hc
 | bool b=>exact eX (μ:=μ) (μ0:=μ0) (h:=h) (h0:=h0) (pv:=.bool b) G hG hg hc
 | str s=>exact eX (μ:=μ) (μ0:=μ0) (h:=h) (h0:=h0) (pv:=.str s) G hG hg hc
 | ck=>exact eX (μ:=μ) (μ0:=μ0) (h:=h) (h0:=h0) (pv:=.ck) G hG hg hc
 | iF=>exact eX (μ:=μ) (μ0:=μ0) (h:=h) (h0:=h0) (pv:=.iF) G hG hg hc
 | ij sz n f=>exact eX (μ:=μ) (μ0:=μ0) (h:=h) (h0:=h0) (pv:=.ij sz n f) G hG hg hc
 | gD cs=>exact eX (μ:=μ) (μ0:=μ0) (h:=h) (h0:=h0) (pv:=.gD cs) G hG hg hc
 | fn f=>exact eX (μ:=μ) (μ0:=μ0) (h:=h) (h0:=h0) (pv:=.fn f) G hG hg hc
theorem G2 (hH:de μ h S w) (hM:tQ μ h S w) {μc:Mu} {Sc:Nat->Prop} (hF:Fr μc [] Sc w μ0 h0 S0 w') (hH0:de μ0 h0 S0 w') (Ji:tQ μ0 h0 S0 w')
  (G:PV->Prop) (hG:∀pv v,G pv->ba S0 w' pv v->ba S' w' pv v) (aCD:∀(id g sz n:Nat) (e:TypeId) (f:Nat->List PV),h0[id]? =some (al.row g sz n e f)->∀i,i<n->∀c∈f i,(eh c=false->G c)/\(eh c=true->OG G c))
  (hS1:∀b,S b->S' b) (hS2:∀b,S' b->S b\/w.heap.size<=b) (hS3:∀b,S' b->b<w'.heap.size) (hS4:∀b,S' b->¬dx μ0 h0 b):
  de (kx μ h.length μ0) (h++h0.map (gQ h.length)) S' w'/\tQ (kx μ h.length μ0) (h++h0.map (gQ h.length)) S' w'/\Fr μ h S w (kx μ h.length μ0) (h++h0.map (gQ h.length)) S' w':=by
 have Ah:∀b,¬dx μc [] b:=λb=>lE
 have jI:∀b,b<w.heap.size->w'.heap[b]? =w.heap[b]? :=λb hb=>hF.blocks b hb (Ah b)
 have PS:∀b,dx μ0 h0 b->w.heap.size<=b:=λb hb=>(hF.own b hb).resolve_left (Ah b)
 have rp:∀id o,h[id]? =some o->(h++h0.map (gQ h.length))[id]? =some o/\kx μ h.length μ0 id=μ id:=λid o hid=>by
  have bc:=(An.1 hid).1
  exact ⟨by rw [aKB bc];exact hid,by unfold kx;rw [if_pos bc]⟩
 have inv:∀(id g sz n:Nat) (e:TypeId) (f:Nat->List PV),(h++h0.map (gQ h.length))[id]? =some (al.row g sz n e f)->
   (h[id]? =some (al.row g sz n e f)/\kx μ h.length μ0 id=μ id)\/∃EF f0,id=h.length+EF/\h0[EF]? =some (al.row g sz n e f0)/\kx μ h.length μ0 id=μ0 EF/\f=λi=>(f0 i).map (oA h.length):=λid g sz n e f hid=>by
  rcases aKX id h.length with bc | Q8
  ·rw [aKB bc] at hid
   exact .inl ⟨hid,by unfold kx;rw [if_pos bc]⟩
  ·obtain ⟨EF,rfl⟩:∃EF,id=h.length+EF:=⟨id - h.length,by omega⟩
   rw [pX _ rfl] at hid
   cases ho:h0[EF]? with
   | none=>rw [ho] at hid;cases hid
   | some o=>
    rw [ho] at hid
    cases o with
    | dead=>cases hid
    | row g0 sz0 n0 e0 f0=>
     injection hid with hid
     injection hid with e1 e2 e3 e4 e5
     subst e1 e2 e3 e4 e5
     exact .inr ⟨EF,f0,rfl,ho,ug _ _,rfl⟩
 have BO:∀b,GJ (kx μ h.length μ0) (h++h0.map (gQ h.length)) b->GJ μ h b\/GJ μ0 h0 b:=λb ⟨id,g,sz,n,e,f,base,hid,hm⟩=>by
  rcases inv id g sz n e f hid with ⟨h1,h2⟩ | ⟨EF,f0,rfl,h1,h2,_⟩
  ·rw [h2] at hm;exact .inl ⟨id,g,sz,n,e,f,base,h1,hm⟩
  ·rw [h2] at hm;exact .inr ⟨EF,g,sz,n,e,f0,base,h1,hm⟩
 have aIm:∀{c:PV} {sz n:Nat} {e:TypeId} {f:Nat->List PV} {F:Nat->Prop},oA h.length c=.dI sz n e f F->c=.dI sz n e f F:=λ{c} _ _ _ _ _ hc=>by
  cases c<;>first | exact hc | cases hc
 have qY:∀id i j b,eA (h++h0.map (gQ h.length)) id i j b->eA h id i j b\/∃EF,id=h.length+EF/\eA h0 EF i j b:=λid i j b ⟨g,sz,n,e,f,cJ,n',e',f',F',q1,q2,q3,q4⟩=>by
  rcases inv id g sz n e f q1 with ⟨h1,h2⟩ | ⟨EF,f0,rfl,h1,h2,rfl⟩
  ·exact .inl ⟨_,_,_,_,_,_,_,_,_,_,h1,q2,q3,q4⟩
  ·rw [aKq] at q3
   cases hx:(f0 i)[j]? with
   | none=>rw [hx] at q3;cases q3
   | some c=>
    rw [hx] at q3
    injection q3 with q3
    rw [aIm q3] at hx
    exact .inr ⟨EF,rfl,_,_,_,_,_,_,_,_,_,_,h1,q2,hx,q4⟩
 have nD:∀b,dx (kx μ h.length μ0) (h++h0.map (gQ h.length)) b->dx μ h b\/dx μ0 h0 b:=λb hb=>by
  rcases hb with hb | ⟨x,y,z,hb⟩
  ·exact (BO b hb).imp .inl .inl
  ·rcases qY x y z b hb with q | ⟨_,_,q⟩
   ·exact .inl (.inr ⟨_,_,_,q⟩)
   ·exact .inr (.inr ⟨_,_,_,q⟩)
 have lu:Fr μ h S w (kx μ h.length μ0) (h++h0.map (gQ h.length)) S' w':=by
  refine ⟨by simp,λb hb _=>jI b hb,hS1,λb hb=>(hS2 b hb).imp id .inr,λb hb=>(nD b hb).imp id (PS b),hF.size,hF.os,hF.tape,hF.output,λid g sz n e f hid=>?_,λid hid=>(rp id _ hid).1,λb k hb hc=>kX.of_same (jI b hc.lt) hc,λid g sz n e f b base hid hm nI=>⟨let ⟨es,c,q⟩:=nI;⟨es,c,(jI b (abF.1 q).1).trans q⟩,.inr ⟨⟨_,_,_,_,_,(rp id _ hid).1⟩,(rp id _ hid).2.trans hm⟩⟩,λb _ _ _ hx nI=>let ⟨es,c,q⟩:=nI;⟨es,c,(jI b (abF.1 q).1).trans q⟩⟩
  obtain ⟨h1,h2⟩:=rp id _ hid
  rw [h1]
  exact ⟨As _,λ_=>⟨h2,rfl,rfl,rfl⟩⟩
 refine ⟨λid g sz n e f hid=>?_,⟨λb hb hs=>?_,λb hb=>?_,hS3,?_,hM.DD lu,λb hb x y z hx=>?_,λb x y z x' y' z' hx uT=>?_⟩,lu⟩
 rotate_right 2
 ·rcases BO b hb with h1 | h1
  ·rcases qY x y z b hx with h2 | ⟨_,_,h2⟩
   ·exact hM.hv b h1 _ _ _ h2
   ·have a1:=hM.lt b (.inl h1)
    have a2:=PS b (.inr ⟨_,_,_,h2⟩)
    omega
  ·rcases qY x y z b hx with h2 | ⟨_,_,h2⟩
   ·have a1:=hM.lt b (.inr ⟨_,_,_,h2⟩)
    have a2:=PS b (.inl h1)
    omega
   ·exact Ji.hv b h1 _ _ _ h2
 ·rcases qY x y z b hx with h1 | ⟨u1,rfl,h1⟩
  ·rcases qY x' y' z' b uT with h2 | ⟨u2,rfl,h2⟩
   ·exact hM.hh b _ _ _ _ _ _ h1 h2
   ·have a1:=hM.lt b (.inr ⟨_,_,_,h1⟩)
    have a2:=PS b (.inr ⟨_,_,_,h2⟩)
    omega
  ·rcases qY x' y' z' b uT with h2 | ⟨u2,rfl,h2⟩
   ·have a1:=hM.lt b (.inr ⟨_,_,_,h2⟩)
    have a2:=PS b (.inr ⟨_,_,_,h1⟩)
    omega
   ·obtain ⟨e1,e2,e3⟩:=Ji.hh b _ _ _ _ _ _ h1 h2
    exact ⟨by rw [e1],e2,e3⟩
 ·rcases inv id g sz n e f hid with ⟨h1,h2⟩ | ⟨EF,f0,rfl,h1,h2,rfl⟩
  ·obtain ⟨q1,q2⟩:=hH id g sz n e f h1
   refine ⟨q1,?_⟩
   rw [h2]
   cases hm:μ id with
   | none=>rw [hm] at q2;exact q2
   | some p=>
    obtain ⟨b,base⟩:=p
    rw [hm] at q2
    obtain ⟨o,r1,r2⟩:=q2
    have bc:b<w.heap.size:=(abF.1 r1).1
    exact ⟨o,(jI b bc).trans r1,r2.mono (λi y pv v hi hy hr=>hr.fr lu hM (λcJ n' e' f' F' he b2 AS=>jI b2 (hM.lt b2 (.inr ⟨id,i,y,_,_,_,_,_,_,_,_,_,_,h1,hi,he▸hy,AS⟩))))⟩
  ·obtain ⟨q1,q2⟩:=hH0 EF g sz n e f0 h1
   refine ⟨λi hi=>by simpa using q1 i hi,?_⟩
   rw [h2]
   cases hm:μ0 EF with
   | none=>rw [hm] at q2;exact q2
   | some p=>
    obtain ⟨b,base⟩:=p
    rw [hm] at q2
    obtain ⟨o,r1,r2⟩:=q2
    refine ⟨o,r1,?_⟩
    cases o with
    | cells cur e' z=>
     obtain ⟨x1,x2,x3,r3⟩:=r2
     refine ⟨x1,x2,x3,λi j pv hi hj=>?_⟩
     rw [aKq] at hj
     cases hx:(f0 i)[j]? with
     | none=>rw [hx] at hj;cases hj
     | some c=>
      rw [hx] at hj
      injection hj with hj
      subst hj
      obtain ⟨v,s1,s2⟩:=r3 i j c hi hx
      obtain ⟨g1,g2⟩:=aCD EF g sz n e f0 h1 i hi c (aKl hx)
      refine ⟨v,s1,?_⟩
      cases ho:eh c with
      | false=>exact cQ.k (eW G hG (g1 ho) s2.c) (by cases c<;>first | rfl | cases ho)
      | true=>
       cases c with
       | dI lN n2 e2 f2 F2=>exact my.og hG (show my S0 w' (.dI lN n2 e2 f2 F2) v from s2) (g2 rfl)
       | _=>cases ho
    | map es c=>
     obtain ⟨x1,r3⟩:=r2
     refine ⟨x1,λi hi=>?_⟩
     obtain ⟨kp,vp,en,y1,y2,y3,y4⟩:=r3 i hi
     exact ⟨kp,vp,en,by show (f0 i).map (oA h.length)=_;rw [y1];show [oA h.length kp,oA h.length vp]=_;rw [Bg y2,Bg y3],y2,y3,y4⟩
    | _=>exact r2.elim
 ·rcases nD b hb with h1 | h1
  ·rcases hS2 b hs with h2 | h2
   ·exact hM.apart b h1 h2
   ·have:=hM.lt b h1;omega
  ·exact hS4 b hs h1
 ·rcases nD b hb with h1 | h1
  ·exact aKm (hM.lt b h1) hF.size
  ·exact Ji.lt b h1
 ·intro i j gi Uc ni ei fi gj mF nj ej fj b o o' hi hj nV nz
  rcases inv i _ _ _ _ _ hi with ⟨h1,h2⟩ | ⟨EF,f0,rfl,h1,h2,_⟩
  ·rw [h2] at nV
   rcases inv j _ _ _ _ _ hj with ⟨h3,h4⟩ | ⟨id1,f1,rfl,h3,h4,_⟩
   ·rw [h4] at nz;exact hM.inj i j _ _ _ _ _ _ _ _ _ _ _ _ _ h1 h3 nV nz
   ·rw [h4] at nz
    have a1:=hM.lt b (.inl ⟨i,_,_,_,_,_,_,h1,nV⟩)
    have a2:=PS b (.inl ⟨id1,_,_,_,_,_,_,h3,nz⟩)
    omega
  ·rw [h2] at nV
   rcases inv j _ _ _ _ _ hj with ⟨h3,h4⟩ | ⟨id1,f1,rfl,h3,h4,_⟩
   ·rw [h4] at nz
    have a1:=hM.lt b (.inl ⟨j,_,_,_,_,_,_,h3,nz⟩)
    have a2:=PS b (.inl ⟨EF,_,_,_,_,_,_,h1,nV⟩)
    omega
   ·rw [h4] at nz
    have:=Ji.inj EF id1 _ _ _ _ _ _ _ _ _ _ _ _ _ h1 h3 nV nz
    rw [this]
theorem ACall.frame {f:FuncId} {args:List PV} {R:PV->List al->Prop} (hA:ACall P f args [] R) (h:List al) (hp:args.all Rd=true):
  ACall P f args h (λres h'=>∃r0 h0,R r0 h0/\res=tU h.length r0/\h'=h++h0.map (gQ h.length)):=by
 refine ⟨hA.1,λw vs μ S hH hM jO ha=>?_⟩
 refine (hA.2 w vs (λ_=>none) S (λid g sz n e f hid=>by simp at hid) ⟨λb hb=>absurd hb lE,λb hb=>absurd hb lE,hM.slt,λi j g sz n e f g' cJ n' e' f' b o o' hi=>by simp at hi,hM.known,λb _ x y z hx=>zr hx,λb _ _ _ _ _ _ hx=>absurd hx zr⟩ jO (λj pv hj=>?_)).mono ?_
 ·obtain ⟨v,h1,h2⟩:=ha j pv hj
  refine ⟨v,h1,?_⟩
  have hpj:=(aKd.1 hp) pv (aKl hj)
  cases pv with
  | agg cs=>
   obtain ⟨us,q1,q2,q3⟩:=h2
   refine ⟨us,q1,q2,λi c hi=>?_⟩
   obtain ⟨u,r1,r2⟩:=q3 i c hi
   have hc:=(aKd.1 hpj) c (aKl hi)
   exact ⟨u,r1,cQ.lB (Az hc r2)⟩
  | fM cs=>cases hpj
  | own id gen off len=>cases hpj
  | aA id gen i off=>cases hpj
  | qv id=>cases hpj
  | se f df=>cases hpj
  | jQ=>cases hpj
  | dI sz n e f F=>cases hpj
  | int k n=>exact h2
  | bool b=>exact h2
  | str s=>exact h2
  | ck=>exact h2
  | iF=>exact h2
  | ij sz n f=>exact h2
  | gD cs=>exact h2
  | fn f=>exact h2
 ·rintro e w' ⟨v,r0,h0,μ0,S0,he,hR,hv,hH0,Ji,hF⟩
  have Ah:∀b,¬dx (λ_=>none) [] b:=λb=>lE
  obtain ⟨c1,c2,c3⟩:=G2 (S':=S0) hH hM hF hH0 Ji (λ_=>True) (λ_ _ _ h=>h) (λid g sz n e f hid i hi c hcm=>⟨λ_=>trivial,λhx=>by
    obtain ⟨j,hj,hcj⟩:=aLx.1 hcm
    obtain ⟨_,q2⟩:=hH0 id g sz n e f hid
    cases ju:μ0 id with
    | none=>rw [ju] at q2;omega
    | some p=>
     obtain ⟨b,base⟩:=p
     rw [ju] at q2
     obtain ⟨o,_,r2⟩:=q2
     cases o with
     | cells cur e' z=>
      obtain ⟨_,_,_,r3⟩:=r2
      obtain ⟨v,_,s2⟩:=r3 i j c hi (by rw [<-hcj];exact Of hj)
      cases c with
      | dI lN n2 e2 f2 F2=>exact my.all (show my S0 w' (.dI lN n2 e2 f2 F2) v from s2)
      | _=>cases hx
     | map es cl=>
      obtain ⟨kp,vp,en,y1,y2,y3,_⟩:=r2.2 i hi
      rw [y1] at hcm
      rcases aKo.1 hcm with q | q
      ·rw [q] at hx;cases kp<;>first | (cases hx;done) | (cases y2;done)
      ·rw [aLM.1 q] at hx;cases vp<;>first | (cases hx;done) | (cases y3;done)
     | _=>exact r2.elim⟩) hF.sub
   (λb hb=>(hF.new b hb).imp id (λh=>h.resolve_left (Ah b))) Ji.slt (λb hb ho=>Ji.apart b ho hb)
  have tR:afr (λ_=>True) r0:=by
   unfold afr
   split
   ·intro v _;split<;>intros<;>trivial
   ·intros;trivial
   ·trivial
  exact ⟨v,_,_,_,S0,he,⟨r0,h0,hR,rfl,rfl⟩,Eh _ (λ_ _ _ h=>h) tR hv,c1,c2,c3⟩
def ahx:al->Prop
 | .row _ _ n _ f=>∀i,i<n->∀c∈f i,(eh c=false->qA c=true)/\(eh c=true->OG (λpv=>qA pv=true) c)
 | .dead=>True
theorem ab3.p {o:al} (h:ab3 o):ahx o:=by
 cases o with
 | dead=>trivial
 | row g sz n e f=>
  intro i hi c hc
  have:=(aKd.1 (h i hi)) c hc
  exact ⟨λ_=>this,λhx=>by cases c<;>first | (cases hx;done) | (cases this;done)⟩
theorem ACall.snap {f:FuncId} {args mH:List PV} {R:PV->List al->Prop} (hA:ACall P f mH [] R) (h:List al) (hl:mH.length=args.length)
  (hz:∀(j:Nat) (pv gy:PV),args[j]? =some pv->mH[j]? =some gy->Fz h [] [] pv gy/\nA gy=true) (RF:∀r0 h0,R r0 h0->Re r0=true/\∀o∈h0,ahx o):
  ACall P f args h (λres h'=>∃r0 h0,R r0 h0/\res=tU h.length r0/\h'=h++h0.map (gQ h.length)):=by
 refine ⟨hA.1,λw vs μ S hH hM jO ha=>?_⟩
 have hfz:lL h [] [] 0 0 [] []:=trivial
 obtain ⟨uD,_,_⟩:=zo (m:=0) ⟨hH,hM⟩ hfz rfl
 refine (hA.2 w vs (mA μ h []) (GU μ h [] S) uD.heap uD.ok aNc (λj gy hj=>?_)).mono ?_
 ·have MN:j<args.length:=by rw [<-hl];exact (An.1 hj).1
  have tZ:=Of MN
  obtain ⟨v,h1,h2⟩:=ha j _ tZ
  obtain ⟨z1,z2⟩:=hz j _ gy tZ hj
  exact ⟨v,h1,(wg (m:=0) ⟨hH,hM⟩ hfz z1).2.1 v h2⟩
 ·rintro e w' ⟨v,r0,h0,μ0,S0,he,hR,hv,hH0,Ji,hF⟩
  obtain ⟨hf1,hf2⟩:=RF r0 h0 hR
  have Ah:∀b,¬dx (mA μ h []) [] b:=λb=>lE
  have hG:∀pv v,qA pv=true->ba S0 w' pv v->ba S w' pv v:=λpv v hf hp=>by
   cases hp with
   | int k n=>exact .int k n
   | bool b=>exact .bool b
   | str s=>exact .str s
   | ck=>exact .ck
   | iF=>exact .iF
   | fn f=>exact .fn f
   | uS=>cases hf
   | ij=>cases hf
   | gD=>cases hf
  obtain ⟨c1,c2,c3⟩:=G2 (S':=S) hH hM hF hH0 Ji (λpv=>qA pv=true) hG (λid g sz n e f hid i hi c hc=>hf2 _ (aKl hid) i hi c hc) (λ_ hb=>hb) (λb hb=>.inl hb) (λb hb=>aKm (hM.slt b hb) hF.size)
   (λb hb ho=>by
    have h1:=(hF.own b ho).resolve_left (Ah b)
    have h2:=hM.slt b hb
    omega)
  have tR:afr (λpv=>qA pv=true) r0:=by
   cases r0 with
   | fM vs=>
    intro v hv
    have:=(aKd.1 hf1) v hv
    cases v with
    | agg cs=>exact λc hc=>(aKd.1 this) c hc
    | _=>exact this
   | agg cs=>exact λc hc=>(aKd.1 hf1) c hc
   | _=>exact hf1
  exact ⟨v,_,_,_,S,he,⟨r0,h0,hR,rfl,rfl⟩,Eh _ hG tR hv,c1,c2,c3⟩
end
def ld (σ:Nat->Nat):PV->PV
 | .own id gen off len=>.own (σ id) gen off len
 | .aA id gen i off=>.aA (σ id) gen i off
 | .qv id=>.qv (σ id)
 | .se f df=>.se f (uf σ df)
 | v=>v
def tV (σ:Nat->Nat):PV->PV
 | .agg cs=>.agg (cs.map (ld σ))
 | v=>ld σ v
def vO (σ:Nat->Nat):PV->PV
 | .fM vs=>.fM (vs.map (tV σ))
 | v=>tV σ v
def sZ (σ:Nat->Nat):al->al
 | .row g sz n e f=>.row g sz n e (λi=>(f i).map (ld σ))
 | .dead=>.dead
theorem G3 {σ:Nat->Nat} {a:PV} (h:qs (ld σ a)=true):ld σ a=a:=by cases a<;>first | rfl | cases h
theorem G4 {σ:Nat->Nat} {a:PV} (h:qs a=true):ld σ a=a:=by cases a<;>first | rfl | cases h
section
variable {P:Program} {T:qq} {μ μ0 μ1:Mu} {h h0 h1 hc:List al} {S S0 S1:Nat->Prop} {w w':World} {σ:Nat->Nat}
theorem ab4 {pv:PV} {v:Value} (gT:∀j,(∃g sz n e f,h0[j]? =some (al.row g sz n e f)/\(∃f',h1[σ j]? =some (al.row g sz n e f'))/\μ1 (σ j)=μ0 j)\/(h0[j]? =some al.dead/\h1[σ j]? =some al.dead)\/h0[j]? =none)
  (hS:∀b,S0 b->S1 b) (hc:cQ μ0 h0 S0 w pv v):cQ μ1 h1 S1 w (ld σ pv) v:=by
 have wo:∀(id gen i off:Nat) (v:Value),cN μ0 h0 w id gen i off v->cN μ1 h1 w (σ id) gen i off v:=λid gen i off v hc=>by
  unfold cN at hc ⊢
  obtain ⟨q1,q2⟩:=hc
  refine ⟨q1,?_⟩
  rcases gT id with ⟨g,sz,n,e,f,r1,⟨f',r2⟩,r3⟩ | ⟨r1,r2⟩ | r1
  ·rw [r1] at q2
   rw [r2]
   show gen<=g/\_
   rw [r3]
   exact q2
  ·rw [r2];trivial
  ·rw [r1] at q2;exact q2.elim
 cases pv with
 | own id gen off len=>
  have hc:bG μ0 h0 w id gen off len v:=hc
  show bG μ1 h1 w (σ id) gen off len v
  unfold bG at hc ⊢
  obtain ⟨q1,q2⟩:=hc
  refine ⟨q1,?_⟩
  rcases gT id with ⟨g,sz,n,e,f,r1,⟨f',r2⟩,r3⟩ | ⟨r1,r2⟩ | r1
  ·rw [r1] at q2
   rw [r2]
   show gen<=g/\_
   rw [r3]
   exact q2
  ·rw [r2];trivial
  ·rw [r1] at q2;exact q2.elim
 | aA id gen i off=>exact wo _ _ _ _ _ hc
 | se f df=>exact uU.map (O:=λid g u=>cN μ1 h1 w id g 0 0 u) (uU.mono (show qz μ0 h0 w f df v from hc) (λid g u hu=>wo id g 0 0 u hu))
 | qv id=>
  have hc:iv μ0 h0 w id v:=hc
  show iv μ1 h1 w (σ id) v
  unfold iv at hc ⊢
  obtain ⟨q1,q2⟩:=hc
  refine ⟨q1,?_⟩
  rcases gT id with ⟨g,sz,n,e,f,r1,⟨f',r2⟩,r3⟩ | ⟨r1,r2⟩ | r1
  ·rw [r1] at q2
   rw [r2]
   obtain ⟨b,base,x1,x2⟩:=q2
   exact ⟨b,base,r3.trans x1,x2⟩
  ·rw [r2];trivial
  ·rw [r1] at q2;exact q2.elim
 | jQ=>exact hc
 | dI sz n e f F=>exact hc
 | agg cs=>exact (show False from hc).elim
 | fM cs=>exact (show False from hc).elim
 | int k n=>exact ba.mono (λ_ _=>rfl) hS hc
 | bool b=>exact ba.mono (λ_ _=>rfl) hS hc
 | str s=>exact ba.mono (λ_ _=>rfl) hS hc
 | ck=>exact ba.mono (λ_ _=>rfl) hS hc
 | iF=>exact ba.mono (λ_ _=>rfl) hS hc
 | ij sz n f=>exact ba.mono (λ_ _=>rfl) hS hc
 | gD cs=>exact ba.mono (λ_ _=>rfl) hS hc
 | fn f=>exact ba.mono (λ_ _=>rfl) hS hc
theorem iA {pv:PV} {v:Value} (bB:∀pv v,cQ μ0 h0 S0 w pv v->cQ μ1 h1 S1 w (ld σ pv) v) (hc:kz μ0 h0 S0 w pv v):kz μ1 h1 S1 w (tV σ pv) v:=by
 cases pv with
 | agg cs=>
  obtain ⟨vs,q1,q2,q3⟩:=hc
  refine ⟨vs,q1,by simpa using q2,λj pv hj=>?_⟩
  rw [aKq] at hj
  cases hx:cs[j]? with
  | none=>rw [hx] at hj;cases hj
  | some c=>
   rw [hx] at hj
   injection hj with hj
   subst hj
   obtain ⟨u,r1,r2⟩:=q3 j c hx
   exact ⟨u,r1,bB _ _ r2⟩
 | jQ=>trivial
 | dI sz n e f F=>exact bB (.dI sz n e f F) v hc
 | fM cs=>exact (show False from hc).elim
 | own id gen off len=>exact bB (.own id gen off len) v hc
 | aA id gen i off=>exact bB (.aA id gen i off) v hc
 | qv id=>exact bB (.qv id) v hc
 | se f df=>exact bB (.se f df) v hc
 | int k n=>exact bB (.int k n) v hc
 | bool b=>exact bB (.bool b) v hc
 | str s=>exact bB (.str s) v hc
 | ck=>exact bB .ck v hc
 | iF=>exact bB .iF v hc
 | ij sz n f=>exact bB (.ij sz n f) v hc
 | gD cs=>exact bB (.gD cs) v hc
 | fn f=>exact bB (.fn f) v hc
theorem ab5 {pv:PV} {v:Value} (bB:∀pv v,cQ μ0 h0 S0 w pv v->cQ μ1 h1 S1 w (ld σ pv) v) (hc:cj μ0 h0 S0 w pv v):cj μ1 h1 S1 w (vO σ pv) v:=by
 cases pv with
 | fM cs=>
  obtain ⟨vs,q1,q2,q3⟩:=hc
  refine ⟨vs,q1,by simpa using q2,λj pv hj=>?_⟩
  rw [aKq] at hj
  cases hx:cs[j]? with
  | none=>rw [hx] at hj;cases hj
  | some c=>
   rw [hx] at hj
   injection hj with hj
   subst hj
   obtain ⟨u,r1,r2⟩:=q3 j c hx
   exact ⟨u,r1,iA bB r2⟩
 | agg cs=>exact iA (pv:=.agg cs) bB hc
 | jQ=>trivial
 | dI sz n e f F=>exact iA (pv:=.dI sz n e f F) bB hc
 | own id gen off len=>exact iA (pv:=.own id gen off len) bB hc
 | aA id gen i off=>exact iA (pv:=.aA id gen i off) bB hc
 | qv id=>exact iA (pv:=.qv id) bB hc
 | se f df=>exact iA (pv:=.se f df) bB hc
 | int k n=>exact iA (pv:=.int k n) bB hc
 | bool b=>exact iA (pv:=.bool b) bB hc
 | str s=>exact iA (pv:=.str s) bB hc
 | ck=>exact iA (pv:=.ck) bB hc
 | iF=>exact iA (pv:=.iF) bB hc
 | ij sz n f=>exact iA (pv:=.ij sz n f) bB hc
 | gD cs=>exact iA (pv:=.gD cs) bB hc
 | fn f=>exact iA (pv:=.fn f) bB hc
structure Sel (σ:Nat->Nat) (m:Nat) (h:List al):Prop where
 lt:∀j,j<m->σ j<h.length
 new:∀j,m<=j->σ j=h.length+(j - m)
 inj:∀i j,i<m->j<m->σ i=σ j->i=j
theorem Sel.aIn {m:Nat} (hs:Sel σ m h) {i j:Nat} (he:σ i=σ j):i=j:=by
 rcases aKX i m with hi | hi
 ·rcases aKX j m with hj | hj
  ·exact hs.inj i j hi hj he
  ·have:=hs.lt i hi;have:=hs.new j hj;omega
 ·rcases aKX j m with hj | hj
  ·have:=hs.lt j hj;have:=hs.new i hi;omega
  ·have:=hs.new i hi;have:=hs.new j hj;omega
structure ahy (σ:Nat->Nat) (h h0 h':List al):Prop where
 Uf:∀id,(∀j,j<h0.length->σ j≠id)->h'[id]? =h[id]?
 sel:∀j o,h0[j]? =some o->h'[σ j]? =some (sZ σ o)
 len:h.length<=h'.length
def Ei (μ:Mu) (σ:Nat->Nat) (m:Nat):Mu:=λj=>if j<m then μ (σ j) else none
open Classical in
noncomputable def muA (μ:Mu) (σ:Nat->Nat) (m:Nat) (μ0:Mu):Mu:=λid=>if hx:∃j,j<m/\σ j=id then μ0 (Classical.choose hx) else μ id
theorem afs {m:Nat} (ab6:∀i j,σ i=σ j->i=j) {j:Nat} (hj:j<m):muA μ σ m μ0 (σ j)=μ0 j:=by
 have hx:∃i,i<m/\σ i=σ j:=⟨j,hj,rfl⟩
 unfold muA
 rw [dif_pos hx,ab6 _ _ (Classical.choose_spec hx).2]
theorem IZ {m id:Nat} (hn:∀j,j<m->σ j≠id):muA μ σ m μ0 id=μ id:=by
 unfold muA
 rw [dif_neg]
 rintro ⟨j,h1,h2⟩
 exact hn j h1 h2
theorem fZ (qL:Sel σ hc.length h) (gT:∀j o,hc[j]? =some o->h[σ j]? =some (sZ σ o)) {pv:PV} {v:Value} (hr:cQ μ h S w (ld σ pv) v):cQ (Ei μ σ hc.length) hc S w pv v:=by
 have get:∀id,(∃g sz n e f,hc[id]? =some (al.row g sz n e f)/\h[σ id]? =some (sZ σ (al.row g sz n e f))/\Ei μ σ hc.length id=μ (σ id))\/(hc[id]? =some al.dead/\h[σ id]? =some al.dead)\/h[σ id]? =none:=λid=>by
  cases ho:hc[id]? with
  | none=>
   refine .inr (.inr (aKM ?_))
   have Q8:hc.length<=id:=List.getElem?_eq_none_iff.1 ho
   have:=qL.new id Q8
   omega
  | some o=>
   have bc:=(An.1 ho).1
   cases o with
   | dead=>exact .inr (.inl ⟨rfl,gT id _ ho⟩)
   | row g sz n e f=>exact .inl ⟨g,sz,n,e,f,rfl,gT id _ ho,by unfold Ei;rw [if_pos bc]⟩
 have wo:∀(id gen i off:Nat) (v:Value),cN μ h w (σ id) gen i off v->cN (Ei μ σ hc.length) hc w id gen i off v:=λid gen i off v hr=>by
  unfold cN at hr ⊢
  obtain ⟨q1,q2⟩:=hr
  refine ⟨q1,?_⟩
  rcases get id with ⟨g,sz,n,e,f,r1,r2,r3⟩ | ⟨r1,r2⟩ | r1
  ·rw [r2] at q2
   rw [r1]
   show gen<=g/\_
   rw [r3]
   exact q2
  ·rw [r1];trivial
  ·rw [r1] at q2;exact q2.elim
 cases pv with
 | own id gen off len=>
  have hr:bG μ h w (σ id) gen off len v:=hr
  show bG _ hc w id gen off len v
  unfold bG at hr ⊢
  obtain ⟨q1,q2⟩:=hr
  refine ⟨q1,?_⟩
  rcases get id with ⟨g,sz,n,e,f,r1,r2,r3⟩ | ⟨r1,r2⟩ | r1
  ·rw [r2] at q2
   rw [r1]
   show gen<=g/\_
   rw [r3]
   exact q2
  ·rw [r1];trivial
  ·rw [r1] at q2;exact q2.elim
 | aA id gen i off=>exact wo _ _ _ _ _ hr
 | se f df=>exact uU.mono (uU.aCE (show qz μ h w f (uf σ df) v from hr)) (λid g u hu=>wo _ _ _ _ _ hu)
 | qv id=>
  have hr:iv μ h w (σ id) v:=hr
  show iv _ hc w id v
  unfold iv at hr ⊢
  obtain ⟨q1,q2⟩:=hr
  refine ⟨q1,?_⟩
  rcases get id with ⟨g,sz,n,e,f,r1,r2,r3⟩ | ⟨r1,r2⟩ | r1
  ·rw [r2] at q2
   rw [r1]
   obtain ⟨b,base,x1,x2⟩:=q2
   exact ⟨b,base,r3.trans x1,x2⟩
  ·rw [r1];trivial
  ·rw [r1] at q2;exact q2.elim
 | jQ=>exact hr
 | dI sz n e f F=>exact hr
 | agg cs=>exact (show False from hr).elim
 | fM cs=>exact (show False from hr).elim
 | int k n=>exact hr
 | bool b=>exact hr
 | str s=>exact hr
 | ck=>exact hr
 | iF=>exact hr
 | ij sz n f=>exact hr
 | gD cs=>exact hr
 | fn f=>exact hr
theorem TV (qL:Sel σ hc.length h) (gT:∀j o,hc[j]? =some o->h[σ j]? =some (sZ σ o)) {pv:PV} {v:Value} (hr:kz μ h S w (tV σ pv) v):kz (Ei μ σ hc.length) hc S w pv v:=by
 cases pv with
 | agg cs=>
  obtain ⟨vs,q1,q2,q3⟩:=hr
  refine ⟨vs,q1,by simpa using q2,λj pv hj=>?_⟩
  obtain ⟨u,r1,r2⟩:=q3 j (ld σ pv) (by rw [aKq,hj];rfl)
  exact ⟨u,r1,fZ qL gT r2⟩
 | jQ=>trivial
 | dI sz n e f F=>exact fZ (μ:=μ) (S:=S) (w:=w) (pv:=.dI sz n e f F) qL gT hr
 | fM cs=>exact (show False from hr).elim
 | own id gen off len=>exact fZ (μ:=μ) (S:=S) (w:=w) (pv:=.own id gen off len) qL gT hr
 | aA id gen i off=>exact fZ (μ:=μ) (S:=S) (w:=w) (pv:=.aA id gen i off) qL gT hr
 | qv id=>exact fZ (μ:=μ) (S:=S) (w:=w) (pv:=.qv id) qL gT hr
 | se f df=>exact fZ (μ:=μ) (S:=S) (w:=w) (pv:=.se f df) qL gT hr
 | int k n=>exact fZ (μ:=μ) (S:=S) (w:=w) (pv:=.int k n) qL gT hr
 | bool b=>exact fZ (μ:=μ) (S:=S) (w:=w) (pv:=.bool b) qL gT hr
 | str s=>exact fZ (μ:=μ) (S:=S) (w:=w) (pv:=.str s) qL gT hr
 | ck=>exact fZ (μ:=μ) (S:=S) (w:=w) (pv:=.ck) qL gT hr
 | iF=>exact fZ (μ:=μ) (S:=S) (w:=w) (pv:=.iF) qL gT hr
 | ij sz n f=>exact fZ (μ:=μ) (S:=S) (w:=w) (pv:=.ij sz n f) qL gT hr
 | gD cs=>exact fZ (μ:=μ) (S:=S) (w:=w) (pv:=.gD cs) qL gT hr
 | fn f=>exact fZ (μ:=μ) (S:=S) (w:=w) (pv:=.fn f) qL gT hr
theorem ab7 {c:PV} {sz n:Nat} {e:TypeId} {f:Nat->List PV} {F:Nat->Prop} (hc:ld σ c=.dI sz n e f F):c=.dI sz n e f F:=by cases c<;>first | exact hc | cases hc
theorem aft {c:PV} (h:eh c=false):eh (ld σ c)=false:=by cases c<;>first | rfl | cases h
theorem ACall.sel {f:FuncId} {args jT:List PV} {R:PV->List al->Prop} (hA:ACall P f args hc R) (h:List al) (qL:Sel σ hc.length h) (gT:∀j o,hc[j]? =some o->h[σ j]? =some (sZ σ o))
  (mB:jT=args.map (tV σ)) (nxt:List al->List al) (aIo:∀h0,hc.length<=h0.length->ahy σ h h0 (nxt h0)):
  ACall P f jT h (λres h'=>∃r0 h0,R r0 h0/\res=vO σ r0/\h'=nxt h0):=by
 refine ⟨hA.1,λw vs μ S hH hM jO ha=>?_⟩
 subst mB
 have ab6:∀i j,σ i=σ j->i=j:=λi j=>qL.aIn
 have afu:∀b,GJ (Ei μ σ hc.length) hc b->GJ μ h b:=λb ⟨j,g,sz,n,e,f,base,q1,q2⟩=>by
  have bc:=(An.1 q1).1
  unfold Ei at q2
  rw [if_pos bc] at q2
  exact ⟨σ j,g,sz,n,e,_,base,gT j _ q1,q2⟩
 have TW:∀j x y b,eA hc j x y b->eA h (σ j) x y b:=λj x y b ⟨g,sz,n,e,f,cJ,n',e',f',F',q1,q2,q3,q4⟩=>⟨g,sz,n,e,_,cJ,n',e',f',F',gT j _ q1,q2,by
  show ((f x).map (ld σ))[y]? =_
  rw [aKq,q3];rfl,q4⟩
 have ab8:∀b,dx (Ei μ σ hc.length) hc b->dx μ h b/\True:=λb hb=>by
  rcases hb with hb | ⟨x,y,z,hb⟩
  ·exact ⟨.inl (afu b hb),trivial⟩
  ·exact ⟨.inr ⟨_,_,_,TW _ _ _ _ hb⟩,trivial⟩
 have hHc:de (Ei μ σ hc.length) hc S w:=λj g sz n e f hj=>by
  have bc:=(An.1 hj).1
  obtain ⟨q1,q2⟩:=hH (σ j) _ _ _ _ _ (gT j _ hj)
  refine ⟨λi hi=>by simpa using q1 i hi,?_⟩
  have hm:Ei μ σ hc.length j=μ (σ j):=by unfold Ei;rw [if_pos bc]
  rw [hm]
  cases ju:μ (σ j) with
  | none=>rw [ju] at q2;exact q2
  | some p=>
   obtain ⟨b,base⟩:=p
   rw [ju] at q2
   obtain ⟨o,r1,r2⟩:=q2
   refine ⟨o,r1,?_⟩
   cases o with
   | cells cur e' z=>
    obtain ⟨x1,x2,x3,r3⟩:=r2
    refine ⟨x1,x2,x3,λi k pv hi hk=>?_⟩
    obtain ⟨u,s1,s2⟩:=r3 i k (ld σ pv) hi (by rw [aKq,hk];rfl)
    refine ⟨u,s1,?_⟩
    cases hx:eh pv with
    | false=>exact (fZ qL gT s2.c).k hx
    | true=>
     cases pv with
     | dI lN n2 e2 f2 F2=>exact s2
     | _=>cases hx
   | map es c=>
    obtain ⟨x1,r3⟩:=r2
    refine ⟨x1,λi hi=>?_⟩
    obtain ⟨kp,vp,en,y1,y2,y3,y4⟩:=r3 i hi
    refine ⟨kp,vp,en,?_,y2,y3,y4⟩
    have y1:(f i).map (ld σ)=[kp,vp]:=y1
    generalize f i=l at y1
    rcases l with _ | ⟨a,_ | ⟨b,_ | ⟨c3,l3⟩⟩⟩<;>simp at y1
    obtain ⟨rfl,rfl⟩:=y1
    rw [G3 y2,G3 y3]
   | _=>exact r2.elim
 have hMc:tQ (Ei μ σ hc.length) hc S w:=⟨λb hb=>hM.apart b (ab8 b hb).1,λb hb=>hM.lt b (ab8 b hb).1,hM.slt,λi j gi Uc ni ei fi gj mF nj ej fj b o o' hi hj nV nz=>by
  have hli:=(An.1 hi).1
  have hlj:=(An.1 hj).1
  unfold Ei at nV nz
  rw [if_pos hli] at nV
  rw [if_pos hlj] at nz
  exact ab6 _ _ (hM.inj _ _ _ _ _ _ _ _ _ _ _ _ _ _ _ (gT i _ hi) (gT j _ hj) nV nz),hM.known,λb hb x y z hx=>hM.hv b (afu b hb) _ _ _ (TW _ _ _ _ hx),λb x y z x' y' z' hx uT=>by
  obtain ⟨e1,e2,e3⟩:=hM.hh b _ _ _ _ _ _ (TW _ _ _ _ hx) (TW _ _ _ _ uT)
  exact ⟨ab6 _ _ e1,e2,e3⟩⟩
 refine (hA.2 w vs _ S hHc hMc (by simpa using jO) (λj pv hj=>?_)).mono ?_
 ·obtain ⟨v,q1,q2⟩:=ha j (tV σ pv) (by rw [aKq,hj];rfl)
  exact ⟨v,q1,TV qL gT q2⟩
 ·rintro e w' ⟨v,r0,h0,μ0,S0,he,hR,hv,hH0,Ji,hF⟩
  have hlen:hc.length<=h0.length:=hF.len
  have TX:=aIo h0 hlen
  obtain ⟨h',hh'⟩:∃h',h'=nxt h0:=⟨_,rfl⟩
  rw [<-hh'] at TX
  have hmA:∀j,j<h0.length->muA μ σ h0.length μ0 (σ j)=μ0 j:=λj hj=>afs ab6 hj
  have inv:∀id o,h'[id]? =some o->(∃j o0,σ j=id/\h0[j]? =some o0/\o=sZ σ o0/\muA μ σ h0.length μ0 id=μ0 j)\/((∀j,j<h0.length->σ j≠id)/\h[id]? =some o/\muA μ σ h0.length μ0 id=μ id):=λid o hid=>by
   by_cases hx:∃j,j<h0.length/\σ j=id
   ·obtain ⟨j,hj,rfl⟩:=hx
    have:=TX.sel j _ (Of hj)
    rw [this] at hid
    injection hid with hid
    exact .inl ⟨j,_,rfl,Of hj,hid.symm,hmA j hj⟩
   ·have hn:∀j,j<h0.length->σ j≠id:=λj hj he=>hx ⟨j,hj,he⟩
    rw [TX.Uf id hn] at hid
    exact .inr ⟨hn,hid,IZ hn⟩
  have apart:∀id g sz n e f b base,(∀j,j<h0.length->σ j≠id)->h[id]? =some (al.row g sz n e f)->μ id=some (b,base)->¬dx (Ei μ σ hc.length) hc b:=λid g sz n e f b base hn hid hm Bb=>by
   rcases Bb with ⟨j,gj,mF,nj,ej,fj,bj,q1,q2⟩ | ⟨x,y,z,hx⟩
   rotate_left
   ·exact hM.hv b ⟨id,g,sz,n,e,f,base,hid,hm⟩ _ _ _ (TW _ _ _ _ hx)
   have bc:=(An.1 q1).1
   unfold Ei at q2
   rw [if_pos bc] at q2
   exact hn j aNc (hM.inj _ _ _ _ _ _ _ _ _ _ _ _ _ _ _ (gT j _ q1) hid q2 hm)
  have Ej:∀id x y b,(∀j,j<h0.length->σ j≠id)->eA h id x y b->¬dx (Ei μ σ hc.length) hc b:=λid x y b hn hx Bb=>by
   rcases Bb with Bb | ⟨j,x',y',uT⟩
   ·exact hM.hv b (afu b Bb) _ _ _ hx
   ·obtain ⟨e1,_,_⟩:=hM.hh b _ _ _ _ _ _ (TW _ _ _ _ uT) hx
    obtain ⟨_,_,_,_,_,_,_,_,_,_,q1,_⟩:=uT
    have:=(An.1 q1).1
    exact hn j aNc e1
  have ahz:∀b,GJ (muA μ σ h0.length μ0) h' b->GJ μ0 h0 b\/∃id g sz n e f base,(∀j,j<h0.length->σ j≠id)/\h[id]? =some (al.row g sz n e f)/\μ id=some (b,base):=λb ⟨id,g,sz,n,e,f,base,q1,q2⟩=>by
   rcases inv id _ q1 with ⟨j,o0,rfl,r1,r2,r3⟩ | ⟨r1,r2,r3⟩
   ·rw [r3] at q2
    cases o0 with
    | dead=>cases r2
    | row g0 sz0 n0 e0 f0=>exact .inl ⟨j,g0,sz0,n0,e0,f0,base,r1,q2⟩
   ·rw [r3] at q2
    exact .inr ⟨id,g,sz,n,e,f,base,r1,r2,q2⟩
  have G5:∀id x y b,eA h' id x y b->(∃j,σ j=id/\eA h0 j x y b)\/((∀j,j<h0.length->σ j≠id)/\eA h id x y b):=λid x y b ⟨g,sz,n,e,f,cJ,n',e',f',F',q1,q2,q3,q4⟩=>by
   rcases inv id _ q1 with ⟨j,o0,rfl,r1,r2,r3⟩ | ⟨r1,r2,r3⟩
   ·cases o0 with
    | dead=>cases r2
    | row g0 sz0 n0 e0 f0=>
     injection r2 with e1 e2 e3 e4 e5
     subst e1 e2 e3 e4 e5
     rw [aKq] at q3
     cases hx:(f0 x)[y]? with
     | none=>rw [hx] at q3;cases q3
     | some c=>
      rw [hx] at q3
      injection q3 with q3
      rw [ab7 q3] at hx
      exact .inl ⟨j,rfl,_,_,_,_,_,_,_,_,_,_,r1,q2,hx,q4⟩
   ·exact .inr ⟨r1,_,_,_,_,_,_,_,_,_,_,r2,q2,q3,q4⟩
  have nD:∀b,dx (muA μ σ h0.length μ0) h' b->dx μ0 h0 b\/(dx μ h b/\¬dx (Ei μ σ hc.length) hc b):=λb hb=>by
   rcases hb with hb | ⟨x,y,z,hb⟩
   ·rcases ahz b hb with q | ⟨id,g,sz,n,e,f,base,q1,q2,q3⟩
    ·exact .inl (.inl q)
    ·exact .inr ⟨.inl ⟨id,g,sz,n,e,f,base,q2,q3⟩,apart id _ _ _ _ _ _ _ q1 q2 q3⟩
   ·rcases G5 x y z b hb with ⟨j,_,q⟩ | ⟨q1,q2⟩
    ·exact .inl (.inr ⟨_,_,_,q⟩)
    ·exact .inr ⟨.inr ⟨_,_,_,q2⟩,Ej _ _ _ _ q1 q2⟩
  have mixed:∀b,dx μ0 h0 b->dx μ h b->¬dx (Ei μ σ hc.length) hc b->False:=λb q1 q2 q3=>by
   rcases hF.own b q1 with r | r
   ·exact q3 r
   ·have:=hM.lt b q2;omega
  have lu:Fr μ h S w (muA μ σ h0.length μ0) h' S0 w':=by
   refine ⟨TX.len,λb hb Ah=>hF.blocks b hb (λho=>Ah (ab8 b ho).1),hF.sub,λb hb=>?_,λb hb=>?_,hF.size,hF.os,hF.tape,hF.output,λid g sz n e f hid=>?_,λid hid=>?_,λb k hb ic=>?_,λid g sz n e f b base hid hm nI=>?_,λb id x y hx nI=>?_⟩
   rotate_right
   ·by_cases ho:dx (Ei μ σ hc.length) hc b
    ·rcases ho with ho | ⟨j,x',y',ho⟩
     ·exact absurd hx (hM.hv b (afu b ho) _ _ _)
     ·exact hF.xj b j x' y' ho nI
    ·obtain ⟨es,c,q⟩:=nI
     exact ⟨es,c,(hF.blocks b (abF.1 q).1 ho).trans q⟩
   ·rcases hF.new b hb with q | q | q
    ·exact .inl q
    ·exact .inr (.inl (ab8 b q).1)
    ·exact .inr (.inr q)
   ·rcases nD b hb with q | ⟨q,_⟩
    ·rcases hF.own b q with r | r
     ·exact .inl (ab8 b r).1
     ·exact .inr r
    ·exact .inl q
   ·by_cases hx:∃j,j<hc.length/\σ j=id
    ·obtain ⟨j,hj,rfl⟩:=hx
     have tZ:j<h0.length:=by omega
     have Tw:=Of hj
     have Bb:=gT j _ Tw
     rw [Bb] at hid
     cases hoc:hc[j] with
     | dead=>rw [hoc] at hid;cases hid
     | row gc szc nc ec fc=>
      rw [hoc] at hid Tw
      injection hid with hid
      injection hid with e1 e2 e3 e4 e5
      subst e1 e2 e3 e4
      have hg:=hF.DE j _ _ _ _ _ Tw
      have hs:=TX.sel j _ (Of tZ)
      rw [Of tZ] at hg
      rw [hs]
      cases ho0:h0[j] with
      | dead=>trivial
      | row g' cJ n' e' f'=>
       rw [ho0] at hg
       refine ⟨hg.1,λQ8=>?_⟩
       obtain ⟨a1,a2,a3,a4⟩:=hg.2 Q8
       refine ⟨?_,a2,a3,a4⟩
       rw [hmA j tZ,a1]
       unfold Ei
       rw [if_pos hj]
    ·have hn:∀j,j<h0.length->σ j≠id:=λj hj he=>by
      rcases aKX j hc.length with h1 | h1
      ·exact hx ⟨j,h1,he⟩
      ·have:=qL.new j h1
       have:=(An.1 hid).1
       omega
     rw [TX.Uf id hn,hid]
     exact ⟨As _,λ_=>⟨IZ hn,rfl,rfl,rfl⟩⟩
   ·by_cases hx:∃j,j<hc.length/\σ j=id
    ·obtain ⟨j,hj,rfl⟩:=hx
     have tZ:j<h0.length:=by omega
     have Tw:=Of hj
     have Bb:=gT j _ Tw
     rw [Bb] at hid
     cases hoc:hc[j] with
     | row gc szc nc ec fc=>rw [hoc] at hid;cases hid
     | dead=>
      rw [hoc] at Tw
      have hd:=hF.dead j Tw
      exact TX.sel j _ hd
    ·have hn:∀j,j<h0.length->σ j≠id:=λj hj he=>by
      rcases aKX j hc.length with h1 | h1
      ·exact hx ⟨j,h1,he⟩
      ·have:=qL.new j h1
       have:=(An.1 hid).1
       omega
     rw [TX.Uf id hn,hid]
   ·by_cases ho:dx (Ei μ σ hc.length) hc b
    ·exact hF.df b k ho ic
    ·exact kX.of_same (hF.blocks b ic.lt ho) ic
   ·by_cases hx:∃j,j<hc.length/\σ j=id
    ·obtain ⟨j,hj,rfl⟩:=hx
     have tZ:j<h0.length:=by omega
     have Tw:=Of hj
     have Bb:=gT j _ Tw
     rw [Bb] at hid
     cases hoc:hc[j] with
     | dead=>rw [hoc] at hid;cases hid
     | row gc szc nc ec fc=>
      rw [hoc] at hid Tw
      have hmc:Ei μ σ hc.length j=some (b,base):=by unfold Ei;rw [if_pos hj];exact hm
      obtain ⟨r1,r2⟩:=hF.maps j _ _ _ _ _ b base Tw hmc nI
      refine ⟨r1,?_⟩
      rcases r2 with r2 | ⟨⟨g',cJ,n',e',f',r2⟩,r3⟩
      ·exact .inl (TX.sel j _ r2)
      ·exact .inr ⟨⟨_,_,_,_,_,TX.sel j _ r2⟩,(hmA j tZ).trans r3⟩
    ·have hn:∀j,j<h0.length->σ j≠id:=λj hj he=>by
      rcases aKX j hc.length with h1 | h1
      ·exact hx ⟨j,h1,he⟩
      ·have:=qL.new j h1
       have:=(An.1 hid).1
       omega
     obtain ⟨es,c,q⟩:=nI
     exact ⟨⟨es,c,(hF.blocks b (abF.1 q).1 (apart id _ _ _ _ _ _ _ hn hid hm)).trans q⟩,.inr ⟨⟨_,_,_,_,_,(TX.Uf id hn).trans hid⟩,(IZ hn).trans hm⟩⟩
  have bB:∀pv v,cQ μ0 h0 S0 w' pv v->cQ (muA μ σ h0.length μ0) h' S0 w' (ld σ pv) v:=λpv v hcr=>by
   refine ab4 (λj=>?_) (λ_ hb=>hb) hcr
   cases ho:h0[j]? with
   | none=>exact .inr (.inr rfl)
   | some o=>
    have bc:=(An.1 ho).1
    cases o with
    | dead=>exact .inr (.inl ⟨rfl,TX.sel j _ ho⟩)
    | row g sz n e f=>exact .inl ⟨g,sz,n,e,f,rfl,⟨_,TX.sel j _ ho⟩,hmA j bc⟩
  refine ⟨v,_,h',_,S0,he,⟨r0,h0,hR,rfl,?_⟩,ab5 bB hv,λid g sz n e f hid=>?_,⟨λb hb hs=>?_,λb hb=>?_,Ji.slt,?_,Ji.known,λb hb id x y hx=>?_,λb id x y id' x' y' hx uT=>?_⟩,lu⟩
  rotate_right 2
  ·rcases ahz b hb with q | ⟨k,g,sz,n,e,f,base,q1,q2,q3⟩
   ·rcases G5 id x y b hx with ⟨j,_,r⟩ | ⟨r1,r2⟩
    ·exact Ji.hv b q _ _ _ r
    ·exact mixed b (.inl q) (.inr ⟨_,_,_,r2⟩) (Ej _ _ _ _ r1 r2)
   ·rcases G5 id x y b hx with ⟨j,_,r⟩ | ⟨r1,r2⟩
    ·exact mixed b (.inr ⟨_,_,_,r⟩) (.inl ⟨k,g,sz,n,e,f,base,q2,q3⟩) (apart k _ _ _ _ _ _ _ q1 q2 q3)
    ·exact hM.hv b ⟨k,g,sz,n,e,f,base,q2,q3⟩ _ _ _ r2
  ·rcases G5 id x y b hx with ⟨j,rfl,r⟩ | ⟨r1,r2⟩
   ·rcases G5 id' x' y' b uT with ⟨j',rfl,t⟩ | ⟨t1,t2⟩
    ·obtain ⟨e1,e2,e3⟩:=Ji.hh b _ _ _ _ _ _ r t
     exact ⟨by rw [e1],e2,e3⟩
    ·exact (mixed b (.inr ⟨_,_,_,r⟩) (.inr ⟨_,_,_,t2⟩) (Ej _ _ _ _ t1 t2)).elim
   ·rcases G5 id' x' y' b uT with ⟨j',rfl,t⟩ | ⟨t1,t2⟩
    ·exact (mixed b (.inr ⟨_,_,_,t⟩) (.inr ⟨_,_,_,r2⟩) (Ej _ _ _ _ r1 r2)).elim
    ·exact hM.hh b _ _ _ _ _ _ r2 t2
  ·exact hh'
  ·rcases inv id _ hid with ⟨j,o0,rfl,r1,r2,r3⟩ | ⟨r1,r2,r3⟩
   ·cases o0 with
    | dead=>cases r2
    | row g0 sz0 n0 e0 f0=>
     injection r2 with e1 e2 e3 e4 e5
     subst e1 e2 e3 e4 e5
     obtain ⟨q1,q2⟩:=hH0 j _ _ _ _ _ r1
     refine ⟨λi hi=>by simpa using q1 i hi,?_⟩
     rw [r3]
     cases ju:μ0 j with
     | none=>rw [ju] at q2;exact q2
     | some p=>
      obtain ⟨b,base⟩:=p
      rw [ju] at q2
      obtain ⟨o,s1,s2⟩:=q2
      refine ⟨o,s1,?_⟩
      cases o with
      | cells cur e' z=>
       obtain ⟨x1,x2,x3,s3⟩:=s2
       refine ⟨x1,x2,x3,λi k pv hi hk=>?_⟩
       rw [aKq] at hk
       cases hx:(f0 i)[k]? with
       | none=>rw [hx] at hk;cases hk
       | some c=>
        rw [hx] at hk
        injection hk with hk
        subst hk
        obtain ⟨u,t1,t2⟩:=s3 i k c hi hx
        refine ⟨u,t1,?_⟩
        cases hxo:eh c with
        | false=>exact (bB _ _ t2.c).k (aft hxo)
        | true=>
         cases c with
         | dI lN n2 e2 f2 F2=>exact t2
         | _=>cases hxo
      | map es c=>
       obtain ⟨x1,s3⟩:=s2
       refine ⟨x1,λi hi=>?_⟩
       obtain ⟨kp,vp,en,y1,y2,y3,y4⟩:=s3 i hi
       exact ⟨kp,vp,en,by show (f0 i).map (ld σ)=_;rw [y1];show [ld σ kp,ld σ vp]=_;rw [G4 y2,G4 y3],y2,y3,y4⟩
      | _=>exact s2.elim
   ·obtain ⟨q1,q2⟩:=hH id _ _ _ _ _ r2
    refine ⟨q1,?_⟩
    rw [r3]
    cases ju:μ id with
    | none=>rw [ju] at q2;exact q2
    | some p=>
     obtain ⟨b,base⟩:=p
     rw [ju] at q2
     obtain ⟨o,s1,s2⟩:=q2
     have bc:b<w.heap.size:=(abF.1 s1).1
     exact ⟨o,(hF.blocks b bc (apart id _ _ _ _ _ _ _ r1 r2 ju)).trans s1,s2.mono (λi y pv v hi hy hr=>hr.fr lu hM (λcJ n' e' f' F' he b2 AS=>by
      have hx:eA h id i y b2:=⟨_,_,_,_,_,_,_,_,_,_,r2,hi,he▸hy,AS⟩
      exact hF.blocks b2 (hM.lt b2 (.inr ⟨_,_,_,hx⟩)) (Ej _ _ _ _ r1 hx)))⟩
  ·rcases nD b hb with q | ⟨q1,q2⟩
   ·exact Ji.apart b q hs
   ·rcases hF.new b hs with r | r | r
    ·exact hM.apart b q1 r
    ·exact q2 r
    ·have:=hM.lt b q1;omega
  ·rcases nD b hb with q | ⟨q1,_⟩
   ·exact Ji.lt b q
   ·exact aKm (hM.lt b q1) hF.size
  ·intro i j gi Uc ni ei fi gj mF nj ej fj b o o' hi hj nV nz
   have ahA:∀(i':Nat) (o1:al) (g sz n:Nat) (e:TypeId) (f:Nat->List PV) (oo:Nat) (id g2 lN n2:Nat) (e2:TypeId) (f2:Nat->List PV) (oo2:Nat),h0[i']? =some (al.row g sz n e f)->μ0 i'=some (b,oo)->(∀j,j<h0.length->σ j≠id)->h[id]? =some (al.row g2 lN n2 e2 f2)->μ id=some (b,oo2)->False:=
    λi' o1 g sz n e f oo id g2 lN n2 e2 f2 oo2 a1 a2 a3 a4 a5=>by
     exact mixed b (.inl ⟨i',g,sz,n,e,f,oo,a1,a2⟩) (.inl ⟨id,g2,lN,n2,e2,f2,oo2,a4,a5⟩) (apart id _ _ _ _ _ _ _ a3 a4 a5)
   rcases inv i _ hi with ⟨i0,oi,rfl,r1,r2,r3⟩ | ⟨r1,r2,r3⟩
   ·rw [r3] at nV
    cases oi with
    | dead=>cases r2
    | row g0 sz0 n0 e0 f0=>
     rcases inv j _ hj with ⟨j0,oj,rfl,t1,t2,t3⟩ | ⟨t1,t2,t3⟩
     ·rw [t3] at nz
      cases oj with
      | dead=>cases t2
      | row g2 lN n2 e2 f2=>rw [Ji.inj i0 j0 _ _ _ _ _ _ _ _ _ _ _ _ _ r1 t1 nV nz]
     ·rw [t3] at nz
      exact (ahA i0 al.dead _ _ _ _ _ _ _ _ _ _ _ _ _ r1 nV t1 t2 nz).elim
   ·rw [r3] at nV
    rcases inv j _ hj with ⟨j0,oj,rfl,t1,t2,t3⟩ | ⟨t1,t2,t3⟩
    ·rw [t3] at nz
     cases oj with
     | dead=>cases t2
     | row g2 lN n2 e2 f2=>exact (ahA j0 al.dead _ _ _ _ _ _ _ _ _ _ _ _ _ t1 nz r1 r2 nV).elim
    ·rw [t3] at nz
     exact hM.inj i j _ _ _ _ _ _ _ _ _ _ _ _ _ r2 t2 nV nz
def dD (is:List Nat) (N:Nat) (j:Nat):Nat:=match is[j]? with
 | some id=>id
 | none=>N+(j - is.length)
def nB (h:List al):List Nat->List al->List al
 | id::r,o::l=>nB (h.set id o) r l
 | _,_=>h
def rW (h:List al) (is:List Nat) (h0:List al):List al:=
 nB h is (h0.map (sZ (dD is h.length)))++(h0.drop is.length).map (sZ (dD is h.length))
theorem gZ:∀(is:List Nat) (l h:List al),(nB h is l).length=h.length
 | [],[],_=>rfl
 | [],_::_,_=>rfl
 | _::_,[],_=>rfl
 | id::r,o::l,h=>by simp only [nB];rw [gZ r l];simp
theorem yi:∀(is:List Nat) (l h:List al) (id:Nat),id∉is->(nB h is l)[id]? =h[id]?
 | [],[],_,_,_=>rfl
 | [],_::_,_,_,_=>rfl
 | _::_,[],_,_,_=>rfl
 | i::r,o::l,h,id,hn=>by
  simp only [aKo,not_or] at hn
  simp only [nB]
  rw [yi r l _ id hn.2,aKs (aLo hn.1)]
theorem Ek:∀(is:List Nat) (l h:List al) (j id:Nat) (o:al),is.Nodup->is[j]? =some id->l[j]? =some o->id<h.length->(nB h is l)[id]? =some o
 | [],_,_,_,_,_,_,h1,_,_=>by simp at h1
 | _::_,[],_,_,_,_,_,_,h2,_=>by simp at h2
 | i::r,o'::l,h,j,id,o,hd,h1,h2,bc=>by
  simp only [List.nodup_cons] at hd
  simp only [nB]
  cases j with
  | zero=>
   simp at h1 h2
   subst h1 h2
   rw [yi r l _ _ hd.1]
   simp [bc]
  | succ j=>
   exact Ek r l _ j id o hd.2 aNF aNE (by simpa using bc)
theorem ana (is:List Nat) (h:List al) (hd:is.Nodup) (bc:∀id∈is,id<h.length):Sel (dD is h.length) is.length h where
 lt j hj:=by
  unfold dD
  rw [Of hj]
  exact bc _ (aKr hj)
 new j hj:=by
  unfold dD
  rw [aKM hj]
 inj i j hi hj he:=by
  unfold dD at he
  rw [Of hi,Of hj] at he
  exact (List.getElem_inj hd).1 he
theorem ab9 (is:List Nat) (h h0:List al) (hd:is.Nodup) (bc:∀id∈is,id<h.length) (hle:is.length<=h0.length):ahy (dD is h.length) h h0 (rW h is h0) where
 len:=by unfold rW;rw [abL,gZ];omega
 Uf id hn:=by
  unfold rW
  rcases aKX id h.length with h1 | h1
  ·rw [aKB (by rw [gZ];exact h1),yi]
   intro hm
   obtain ⟨j,hj,rfl⟩:=aLx.1 hm
   refine hn j aNc ?_
   unfold dD
   rw [Of hj]
  ·rw [aKt (by rw [gZ];exact h1),gZ,aKM h1,aKM]
   simp only [aLB,aKS]
   rcases aKX (id - h.length) (h0.length - is.length) with h2 | h2
   ·refine (hn (is.length+(id - h.length)) aNc ?_).elim
    unfold dD
    rw [aKM aNc]
    simp
    omega
   ·exact h2
 sel j o hj:=by
  have tZ:=(An.1 hj).1
  unfold rW
  rcases aKX j is.length with h1 | h1
  ·have hs:dD is h.length j=is[j]:=by unfold dD;rw [Of h1]
   have hl:=bc _ (aKr h1)
   rw [hs,aKB (by rw [gZ];exact hl)]
   exact Ek is _ h j _ _ hd (Of h1) (by rw [aKq,hj];rfl) hl
  ·have hs:dD is h.length j=h.length+(j - is.length):=by unfold dD;rw [aKM h1]
   rw [hs,aKt (by rw [gZ];omega),gZ,aKq,aLe]
   rw [show is.length+(h.length+(j - is.length) - h.length)=j from by omega,hj]
   rfl
theorem ACall.over {f:FuncId} {args jT:List PV} {R:PV->List al->Prop} (hA:ACall P f args hc R) (is:List Nat) (h:List al) (hl:hc.length=is.length) (hd:is.Nodup) (bc:∀id∈is,id<h.length)
  (gT:∀j o,hc[j]? =some o->h[dD is h.length j]? =some (sZ (dD is h.length) o)) (mB:jT=args.map (tV (dD is h.length))):
  ACall P f jT h (λres h'=>∃r0 h0,R r0 h0/\res=vO (dD is h.length) r0/\h'=rW h is h0):=
 hA.sel h (by rw [hl];exact ana is h hd bc) gT mB (rW h is) (λh0 hle=>ab9 is h h0 hd bc aNc)
end
def look (l:List (Nat×TI)) (t:Nat):TI:=match l with
 | []=>.other
 | (k,ti)::r=>match Nat.beq t k with
  | true=>ti
  | false=>look r t
def xk (l:List (Nat×TI)):qq:=⟨look l⟩
def iN:List Value->List PV->Bool
 | [],[]=>true
 | .int k n::r,.int k' n'::r'=>vG k k'&&n==n'&&iN r r'
 | .bool b::r,.bool b'::r'=>b==b'&&iN r r'
 | .string s::r,.str s'::r'=>s.data.toList==s'&&iN r r'
 | .slice none 0 0::r,.ck::r'=>iN r r'
 | .pointer none::r,.iF::r'=>iN r r'
 | _,_=>false
def uh (P:Program) (t n:Nat):Bool:=match P.info? t with
 | some i=>Nat.beq i.size n
 | none=>false
def tj (P:Program):List Field->List (Nat×Nat×Bool)->Bool
 | [],[]=>true
 | f::r,(off,size,ag)::r'=>Nat.beq f.offset off&&uh P f.type size&&Nat.blt 0 size&&(match P.underlying f.type with | some d=>ag==Fy d | none=>false)&&tj P r r'
 | _,_=>false
def I3:Value->PV->Bool
 | .int k n,.int k' n'=>vG k k'&&n==n'
 | .bool b,.bool b'=>b==b'
 | .string s,.str s'=>s.data.toList==s'
 | _,_=>false
theorem I4 {v:Value} {z:PV} (h:I3 v z=true):FA z v/\qs z=true/\storable z=true:=by
 unfold I3 at h
 split at h
 ·simp only [At,beq_iff_eq] at h
  obtain ⟨h1,rfl⟩:=h
  obtain rfl:=mE h1
  exact ⟨rfl,rfl,rfl⟩
 ·rw [beq_iff_eq] at h;subst h;exact ⟨rfl,rfl,rfl⟩
 ·rw [beq_iff_eq] at h;subst h;exact ⟨rfl,rfl,rfl⟩
 ·cases h
def pd (P:Program) (t:Nat):TI->Bool
 | .int k=>(match P.underlying t with | some (.int k')=>vG k k' | _=>false)&&uh P t 1
 | .bool=>(match P.underlying t with | some .bool=>true | _=>false)&&uh P t 1
 | .str=>(match P.underlying t with | some .string=>true | _=>false)&&uh P t 1
 | .ptr e=>(match P.underlying t with | some (.pointer e')=>Nat.beq e e' | _=>false)&&uh P t 1
 | .slice e sz by' z=>(match P.underlying t with | some (.slice e')=>Nat.beq e e' | _=>false)&&uh P t 1&&Nat.blt 0 sz&&Nat.blt 0 by'&&
   (match P.info? e with
    | some i=>Nat.beq i.size sz&&Nat.beq i.bytes by'&&(match i.zero with | some zv=>Nat.beq zv.cells.size sz&&iN zv.cells.toList z | none=>false)
    | none=>false)
 | .struct sz fl z=>(!(Dr z)||O5 P t z)&&(match P.underlying t with | some (.struct fs)=>tj P fs.toList fl | _=>false)&&
   (match P.info? t with
    | some i=>Nat.beq i.size sz&&(match i.zero with | some zv=>Nat.beq zv.cells.size sz&&iN zv.cells.toList z | none=>false)
    | none=>false)
 | .map k e z=>(match P.underlying t with | some (.map k' e')=>Nat.beq k k'&&Nat.beq e e' | _=>false)&&uh P t 1&&(match P.info? e with
   | some i=>(match i.zero with | some zv=>I3 zv z | none=>false)
   | none=>false)
 | .other=>true
def zeroAt (P:Program) (t:Nat) (z:List PV) (n:Nat):Bool:=match P.info? t with
 | some i=>match i.zero with
  | some zv=>Nat.beq zv.cells.size n&&Nat.beq z.length n&&iN zv.cells.toList z
  | none=>false
 | none=>false
def afv (P:Program) (t:Nat) (ti:TI):Bool:=pd P t ti&&(match Ds ti with | some z=>zeroAt P t z (lI ti) | none=>true)
theorem wq:∀(vs:List Value) (z:List PV),iN vs z=true->vs.length=z.length/\∀(j:Nat) (u:Value),vs[j]? =some u->∃pv:PV,z[j]? =some pv/\u.oneCell'=true/\∀S w,ba S w pv u:=by
 intro vs
 induction vs with
 | nil=>
  intro z hz
  cases z with
  | nil=>exact ⟨rfl,λj u hj=>by simp at hj⟩
  | cons a r=>simp [iN] at hz
 | cons v vs ih=>
  intro z hz
  cases z with
  | nil=>cases v<;>simp [iN] at hz
  | cons p z=>
   have step:∀(hz':iN vs z=true) (aeH:v.oneCell'=true) (hp:∀S w,ba S w p v),(v::vs).length=(p::z).length/\∀(j:Nat) (u:Value),(v::vs)[j]? =some u->∃pv:PV,(p::z)[j]? =some pv/\u.oneCell'=true/\∀S w,ba S w pv u:=by
    intro hz' aeH hp
    obtain ⟨h1,h2⟩:=ih z hz'
    refine ⟨by simp [h1],λj u hj=>?_⟩
    cases j with
    | zero=>simp at hj;subst hj;exact ⟨p,rfl,aeH,hp⟩
    | succ j=>simp at hj;obtain ⟨pv,q1,q2⟩:=h2 j u hj;exact ⟨pv,by simpa using q1,q2⟩
   cases v with
   | int k n=>
    cases p<;>simp [iN] at hz
    obtain ⟨⟨hk,hn⟩,hz⟩:=hz
    have:=mE hk
    subst this hn
    exact step hz rfl λS w=>.int _ _
   | bool b=>
    cases p<;>simp [iN] at hz
    obtain ⟨hb,hz⟩:=hz
    subst hb
    exact step hz rfl λS w=>.bool _
   | string s=>
    cases p<;>simp [iN] at hz
    obtain ⟨hs,hz⟩:=hz
    subst hs
    exact step hz rfl λS w=>ba.str _
   | slice a n c=>
    cases a with
    | some a=>cases p<;>simp [iN] at hz
    | none=>
     cases n with
     | succ n=>cases p<;>simp [iN] at hz
     | zero=>
      cases c with
      | succ c=>cases p<;>simp [iN] at hz
      | zero=>
       cases p<;>simp [iN] at hz
       exact step hz rfl λS w=>.ck
   | pointer a=>
    cases a with
    | some a=>cases p<;>simp [iN] at hz
    | none=>
     cases p<;>simp [iN] at hz
     exact step hz rfl λS w=>.iF
   | _=>cases p<;>simp [iN] at hz
theorem lr {P:Program} {t n:Nat} (h:uh P t n=true):∃i,P.info? t=some i/\i.size=n:=by
 unfold uh at h
 split at h
 ·rename_i i hi;exact ⟨i,hi,No h⟩
 ·cases h
theorem xm {P:Program}:∀(fs:List Field) (fl:List (Nat×Nat×Bool)),tj P fs fl=true->fl.length=fs.length/\
  ∀(k:Nat) (off size:Nat) (ag:Bool),fl[k]? =some (off,size,ag)->∃f j d,fs[k]? =some f/\f.offset=off/\P.info? f.type=some j/\j.size=size/\0<size/\P.underlying f.type=some d/\ag=Fy d
 | [],[],_=>⟨rfl,λk off size ag hk=>by simp at hk⟩
 | [],_::_,h=>by simp [tj] at h
 | _::_,[],h=>by simp [tj] at h
 | f::r,(off,size,ag)::r',h=>by
  simp only [tj,At] at h
  obtain ⟨⟨⟨⟨h1,h2⟩,h3⟩,h4⟩,h5⟩:=h
  obtain ⟨q1,q2⟩:=xm r r' h5
  refine ⟨by simp [q1],λk afw aCF ag' hk=>?_⟩
  cases k with
  | zero=>
   simp at hk
   obtain ⟨rfl,rfl,rfl⟩:=hk
   obtain ⟨j,hj,O6⟩:=lr h2
   cases hu:P.underlying f.type with
   | none=>rw [hu] at h4;cases h4
   | some d=>
    rw [hu] at h4
    exact ⟨f,j,d,rfl,No h1,hj,O6,by simpa using h3,hu,by simpa using h4⟩
  | succ k=>exact q2 k afw aCF ag' (by simpa using hk)
theorem Mp:∀(l:List (Nat×TI)) (t:Nat) (ti:TI),look l t=ti->ti=.other\/(t,ti)∈l
 | [],t,ti,h=>.inl h.symm
 | (k,x)::r,t,ti,h=>by
  unfold look at h
  split at h
  ·rename_i hb
   have:=No hb
   subst this h
   exact .inr aNf
  ·rcases Mp r t ti h with h1 | h1
   ·exact .inl h1
   ·exact .inr (by simp [h1])
theorem aCj {P:Program} {l:List (Nat×TI)} (hl:l.all (λp=>afv P p.1 p.2)=true):fe P (xk l):=by
 have aCG:∀t ti,(xk l).get t=ti->ti≠.other->afv P t ti=true:=λt ti ht hn=>by
  rcases Mp l t ti ht with h1 | h1
  ·exact (hn h1).elim
  ·exact (aKd.1 hl) _ h1
 have all:∀t ti,(xk l).get t=ti->ti≠.other->pd P t ti=true:=λt ti ht hn=>by
  have:=aCG t ti ht hn
  simp only [afv,At] at this
  exact this.1
 have zero:∀t z,Ds ((xk l).get t)=some z->∃i zv,P.info? t=some i/\i.zero=some zv/\zv.cells.size=lI ((xk l).get t)/\z.length=lI ((xk l).get t)/\
   ∀(j:Nat) (u:Value),zv.cells[j]? =some u->∃pv:PV,z[j]? =some pv/\u.oneCell'=true/\∀S w,ba S w pv u:=λt z hz=>by
  have:=aCG t _ rfl (by intro h0;rw [h0] at hz;cases hz)
  simp only [afv,At] at this
  have:=this.2
  rw [hz] at this
  simp only [zeroAt] at this
  split at this
  ·rename_i i hi
   split at this
   ·rename_i zv hzv
    simp only [At] at this
    obtain ⟨⟨h1,h2⟩,h3⟩:=this
    obtain ⟨_,r2⟩:=wq _ _ h3
    exact ⟨i,zv,hi,hzv,No h1,No h2,λj u hj=>r2 j u aNu⟩
   ·cases this
  ·cases this
 have one:∀t,lI ((xk l).get t)=1->(∀sz fl z,(xk l).get t≠.struct sz fl z)->∃i,P.info? t=some i/\i.size=1:=λt h1 h2=>by
  cases ht:(xk l).get t with
  | other=>rw [ht] at h1;cases h1
  | struct sz fl z=>exact (h2 _ _ _ ht).elim
  | int k=>have:=all t _ ht aNf;simp only [pd,At] at this;exact lr this.2
  | bool=>have:=all t _ ht aNf;simp only [pd,At] at this;exact lr this.2
  | str=>have:=all t _ ht aNf;simp only [pd,At] at this;exact lr this.2
  | ptr e=>have:=all t _ ht aNf;simp only [pd,At] at this;exact lr this.2
  | map k e z=>have:=all t _ ht aNf;simp only [pd,At] at this;exact lr this.1.2
  | slice e sz b z=>have:=all t _ ht aNf;simp only [pd,At] at this;exact lr this.1.1.1.2
 refine ⟨λt sz fl z ht hz=>by
   have:=all t _ ht aNf
   simp only [pd,At,aLi,aKN] at this
   rcases this.1.1 with h | h
   ·rw [hz] at h;cases h
   ·exact h,λt k ht=>?_,λt ht=>?_,λt ht=>?_,λt e ht=>?_,λt e sz b z ht=>?_,λt k e z ht=>?_,λt e sz b z ht=>?_,one,zero,λt sz fl z ht=>?_⟩
 ·have:=all t _ ht aNf
  simp only [pd,At] at this
  have:=this.1
  split at this
  ·rename_i k' hu;rw [hu,mE this]
  ·cases this
 ·have:=all t _ ht aNf
  simp only [pd,At] at this
  have:=this.1
  split at this
  ·assumption
  ·cases this
 ·have:=all t _ ht aNf
  simp only [pd,At] at this
  have:=this.1
  split at this
  ·assumption
  ·cases this
 ·have:=all t _ ht aNf
  simp only [pd,At] at this
  have:=this.1
  split at this
  ·rename_i e' hu;rw [hu,No this]
  ·cases this
 ·have:=all t _ ht aNf
  simp only [pd,At] at this
  obtain ⟨⟨⟨⟨h1,h2⟩,h3⟩,h4⟩,h5⟩:=this
  refine ⟨?_,by simpa using h3,?_⟩
  ·split at h1
   ·rename_i e' hu;rw [hu,No h1]
   ·cases h1
  ·split at h5
   ·rename_i i hi
    simp only [At] at h5
    obtain ⟨⟨q1,q2⟩,q3⟩:=h5
    split at q3
    ·rename_i zv hz
     simp only [At] at q3
     obtain ⟨r1,r2⟩:=wq _ _ q3.2
     have e1:=No q3.1
     refine ⟨i,zv,hi,No q1,No q2,hz,e1,?_,λj u hj=>r2 j u aNu⟩
     rw [<-r1,<-e1];simp
    ·cases q3
   ·cases h5
 ·have:=all t _ ht aNf
  simp only [pd,At] at this
  obtain ⟨⟨h1,_⟩,h3⟩:=this
  refine ⟨?_,?_⟩
  ·split at h1
   ·rename_i k' e' hu
    simp only [At] at h1
    rw [hu,No h1.1,No h1.2]
   ·cases h1
  ·split at h3
   ·rename_i i hi
    split at h3
    ·rename_i zv hz
     exact ⟨i,zv,hi,hz,I4 h3⟩
    ·cases h3
   ·cases h3
 ·have:=all t _ ht aNf
  simp only [pd,At] at this
  simpa using this.1.2
 ·have:=all t _ ht aNf
  simp only [pd,At] at this
  obtain ⟨⟨_,h1⟩,h2⟩:=this
  split at h1
  ·rename_i fs hu
   obtain ⟨q1,q2⟩:=xm _ _ h1
   split at h2
   ·rename_i i hi
    simp only [At] at h2
    obtain ⟨r1,r2⟩:=h2
    split at r2
    ·rename_i zv hz
     simp only [At] at r2
     obtain ⟨s1,s2⟩:=wq _ _ r2.2
     have e1:=No r2.1
     refine ⟨fs,i,hu,hi,No r1,by simpa using q1,⟨zv,hz,e1,by rw [<-s1,<-e1];simp,λj u hj=>s2 j u aNu⟩,λk off size ag hk=>?_⟩
     obtain ⟨f,j,d,t1,t2⟩:=q2 k off size ag hk
     exact ⟨f,j,d,by simpa using t1,t2⟩
    ·cases r2
   ·cases h2
  ·cases h1
theorem adf {P:Program} {f:FuncId} {args:List PV} {vs:Array Value} {w:World} (aiH:P3 (λb=>b<w.heap.size) w) (hA:ACall P f args [] (λres _=>res=.bool true)) (jO:vs.size=args.length)
  (ha:∀(j:Nat) (pv:PV),args[j]? =some pv->∃v,vs[j]? =some v/\ba (λb=>b<w.heap.size) w pv v):
  Calls P f vs w λe w'=>e=.returned (.bool true)/\Below w.heap.size w w':=by
 refine (hA.2 w vs (λ_=>none) (λb=>b<w.heap.size) (λid g sz n e f hid=>by simp at hid) ⟨λb hb=>absurd hb lE,λb hb=>absurd hb lE,λb hb=>hb,λi j g sz n e f g' cJ n' e' f' b o o' hi=>by simp at hi,aiH,λb _ x y z hx=>zr hx,λb _ _ _ _ _ _ hx=>absurd hx zr⟩ jO (λj pv hj=>?_)).mono ?_
 ·obtain ⟨v,h1,h2⟩:=ha j pv hj
  refine ⟨v,h1,?_⟩
  have hc:cQ (λ_=>none) [] (λb=>b<w.heap.size) w pv v:=cQ.lB h2
  cases pv with
  | agg cs=>exact (show False from hc).elim
  | fM cs=>exact (show False from hc).elim
  | jQ=>trivial
  | _=>exact hc
 ·rintro e w' ⟨v,res,h',μ',S',rfl,rfl,hv,hH,hM,hF⟩
  refine ⟨by rw [hv.ns],hF.os,hF.tape,hF.output,hF.size,λb hb=>hF.blocks b hb lE⟩
section
variable {h η:List al} {k:List Nat}
theorem Fz.int_eq {k':IntKind} {n n':Int} (he:n=n'):Fz h η k (.int k' n) (.int k' n'):=by subst he;exact .int _ _
theorem Fz.Rf {b b':Bool} (he:b=b'):Fz h η k (.bool b) (.bool b'):=by subst he;exact .bool _
theorem Fz.abo {s s':List UInt8} (he:s=s'):Fz h η k (.str s) (.str s'):=by subst he;exact .str _
theorem Fz.abn {id g sz n off len cJ I6:Nat} {e:TypeId} {f f':Nat->List PV} (hk:id∉k) (ho:h[id]? =some (al.row g sz n e f)) (h1:sz=cJ) (h2:len=I6) (hp:∀i,i<I6->(f' i).all cA=true)
  (hf:∀i,i<I6->xZ h η k (f (off+i)) (f' i)):Fz h η k (.own id g off len) (.ij cJ I6 f'):=by
 subst h1 h2
 exact .frz id g sz n off len e f f' hk ho (λi hi=>(xZ.get _ _ (hf i hi)).1) (λi j pv hi hj=>(aKd.1 (hp i hi)) pv (aKl hj)) (λi j pv gy hi h1 h2 _=>(xZ.get _ _ (hf i hi)).2 j pv gy h1 h2)
theorem Fz.kR {cs B3:List PV} (hl:xZ h η k cs B3):Fz h η k (.agg cs) (.agg B3):=.agg _ _ (xZ.get _ _ hl).1 (xZ.get _ _ hl).2
theorem Fz.nR {cs B3:List PV} (hl:xZ h η k cs B3):Fz h η k (.fM cs) (.fM B3):=.fM _ _ (xZ.get _ _ hl).1 (xZ.get _ _ hl).2
theorem abj {α:Type} {i l:Nat} {a b:α} (uE:i<l):(bif Nat.blt i l then a else b)=a:=by
 have hb:Nat.blt i l=true:=by simpa using uE
 rw [hb];rfl
theorem abk {α:Type} {i l:Nat} {a b:α} (uE:l<=i):(bif Nat.blt i l then a else b)=b:=by
 have hb:Nat.blt i l=false:=by
  cases hh:Nat.blt i l with
  | true=>
   have:i<l:=by simpa using hh
   omega
  | false=>rfl
 rw [hb];rfl
end
theorem WJ {x:Int} (h1: -9223372036854775808<=x) (h2:x<=9223372036854775807):IntKind.i64.wrap x=x:=by rw [IntKind.wrap_i64];omega
theorem ACall.aCc {P:Program} {f:FuncId} {args mH:List PV} {R:PV->List al->Prop} (hA:ACall P f mH [] R) (h:List al) (hz:xZ h [] [] args mH) (hn:mH.all nA=true)
  (RF:∀r0 h0,R r0 h0->Re r0=true/\∀o∈h0,ab3 o):
  ACall P f args h (λres h'=>∃r0 h0,R r0 h0/\res=tU h.length r0/\h'=h++h0.map (gQ h.length)):=by
 obtain ⟨h1,h2⟩:=xZ.get _ _ hz
 exact hA.snap h h1 (λj pv gy q1 q2=>⟨h2 j pv gy q1 q2,(aKd.1 hn) gy (aKl q2)⟩) (λr0 h0 hR=>⟨(RF r0 h0 hR).1,λo ho=>((RF r0 h0 hR).2 o ho).p⟩)
theorem Fz.snap {h:List al} {id g sz n off len cJ I6:Nat} {e:TypeId} {f f':Nat->List PV} (ho:h[id]? =some (al.row g sz n e f)) (h1:sz=cJ) (h2:len=I6) (hp:∀i,i<I6->(f' i).all cA=true)
  (hf:∀i,i<I6->xZ h [] [] (f (off+i)) (f' i)):Fz h [] [] (.own id g off len) (.ij cJ I6 f'):=.abn aNf ho h1 h2 hp hf
theorem ACall.heq {P:Program} {f:FuncId} {args:List PV} {h h2:List al} {R:PV->List al->Prop} (hA:ACall P f args h R) (he:e9 h2 h):ACall P f args h2 R:=by
 refine ⟨hA.1,λw vs μ S hH hM jO ha=>?_⟩
 obtain ⟨hH2,hM2⟩:=he.core ⟨hH,hM⟩
 refine (hA.2 w vs μ S hH2 hM2 jO (λj pv hj=>?_)).mono ?_
 ·obtain ⟨v,h1,h3⟩:=ha j pv hj
  exact ⟨v,h1,he.aeK h3⟩
 ·rintro e w' ⟨v,res,h',μ',S',rfl,hr,hv,hH',hM',hF⟩
  refine ⟨v,res,h',μ',S',rfl,hr,hv,hH',hM',⟨by rw [he.len];exact hF.len,λb hb ho=>hF.blocks b hb (λhx=>ho (he.Ai hx)),hF.sub,λb hb=>?_,λb hb=>?_,hF.size,hF.os,hF.tape,hF.output,λid g sz n e f hid=>?_,λid hid=>hF.dead id (he.getD hid),λb k ho hc=>hF.df b k (he.owned ho) hc,λid g sz n e f b base hid hm nI=>?_,λb x y z hx nI=>hF.xj b x y z (he.hid hx) nI⟩⟩
  ·rcases hF.new b hb with h1 | h1 | h1
   ·exact .inl h1
   ·exact .inr (.inl (he.Ai h1))
   ·exact .inr (.inr h1)
  ·rcases hF.own b hb with h1 | h1
   ·exact .inl (he.Ai h1)
   ·exact .inr h1
  ·obtain ⟨f',h1,_⟩:=he.get hid
   exact hF.DE id g sz n e f' h1
  ·obtain ⟨f',h1,_⟩:=he.get hid
   exact hF.maps id g sz n e f' b base h1 hm nI
end Go.Am
