/- Texts of the proof, joined and shortened. -/
import Derived.Test.YtiigfbapjeefbaaGreatDoorPk2
set_option linter.unusedVariables false
set_option linter.unusedSimpArgs false
namespace Go.Am
open Go Go.RowKit
section
variable {P:Program}{T:ru}{μ:Mu}{h η:List ao}{k:List Nat}{S:Nat->Prop}{w:World}{C:Start}{env:Env}{a:Act}
theorem qb.agree (hs:qb C μ h S env a w) {w':World} (b:dt w w'):qb C μ h S env a w':=
 ⟨⟨hs.core.heap.agree b hs.core.ok,hs.core.ok.agree b⟩,hs.fr.trans (Fr.tH b),λt=>(hs.tmps t).fr (Fr.tH b) hs.core.ok,hs.size,hs.far,hs.defers⟩
theorem Fg {pv:PV} {v:Value} {w w':World} {μ μ':Mu} {h h':List ao} {S S':Nat->Prop} (hs:zZ pv=true) (hv:cE μ h S w pv v):cE μ' h' S' w' pv v/\∀a:Value,cE μ' h' S' w' pv a->a=v:=by
 cases pv with
 | int k n=>obtain rfl:=hv.mU;exact⟨bh.int _ _,λa h'=>h'.mU⟩
 | bool b=>obtain rfl:=hv.nZ;exact⟨bh.bool _,λa h'=>h'.nZ⟩
 | str s=>obtain rfl:=hv.pn;exact⟨bh.str _,λa h'=>h'.pn⟩
 | bR=>obtain rfl:=hv.rz;exact⟨bh.bR,λa h'=>h'.rz⟩
 | _=>cases hs
def HO:PV->Value
 | .int k n=>.int k n
 | .bool b=>.bool b
 | .str s=>.string ⟨⟨s⟩⟩
 | .bR=>.slice none 0 0
 | _=>undef
theorem tn {pv:PV} {w:World} {μ:Mu} {h:List ao} {S:Nat->Prop} (hs:zZ pv=true):cE μ h S w pv (HO pv):=by
 cases pv with
 | int k n=>exact bh.int _ _
 | bool b=>exact bh.bool _
 | str s=>exact bh.str _
 | bR=>exact bh.bR
 | _=>cases hs
theorem Rc {P:Program} {K:Env->Prop} (all:List Oper) (o:Oper) (rest:List Oper) (env:Env) (h:List ao) {j:Nat} {want:Bool} (hg:o.guard=some (j,want)):
  zE P T all h K (o::rest) env=(match(all[j]?).bind (·.dst)with
     | some t=>match env t with
      | .bool b=>iq b
        (match(generalizing:=false) want with
         | true=>qop P T o.op (se env t (.bool true)) h (λv=>zE P T all h K rest (fZ (se env t (.bool true)) o.dst v))
         | false=>zE P T all h K rest (fZ (se env t (.bool true)) o.dst (.gJ [])))
        (match(generalizing:=false) want with
         | true=>zE P T all h K rest (fZ (se env t (.bool false)) o.dst (.gJ []))
         | false=>qop P T o.op (se env t (.bool false)) h (λv=>zE P T all h K rest (fZ (se env t (.bool false)) o.dst v)))
      | .gJ []=>zE P T all h K rest (fZ env o.dst (.gJ []))
      | _=>False
     | none=>False):=by
 obtain⟨dst,op,ty,pos,after,guard⟩:=o;have hg:guard=some (j,want):=hg;rw[hg];rfl
theorem vh (z:fL P T) (ops:Array Oper) {K:Env->Prop} {Q:Act->Prop} (h:List ao) (w:World) (μ:Mu) (S:Nat->Prop) (A:∀env a,K env->qb C μ h S env a w->Q a):
  ∀(l:List Oper) (env:Env) (a:Act),zE P T ops.toList h K l env->(∀o∈l,rL C.nt o=true)->qb C μ h S env a w->wpQuiet P ops (dt w) Q l a
 | [],env,a,hp,_,hs=>A env a hp hs
 | o::rest,env,a,hp,hd,hs=>by
  have r:∀t,o.dst=some t->t<C.nt:=λt B=>by
   have:=hd o aUG;unfold rL at this;rw[B]at this;simpa using this
  have s:∀o∈rest,rL C.nt o=true:=λo ho=>hd o (by simp [ho])
  have run:∀env',qb C μ h S env' a w->qop P T o.op env' h (λv=>zE P T ops.toList h K rest (fZ env' o.dst v))->o.quiet P a (dt w) (wpQuiet P ops (dt w) Q rest):=λenv' d g=>by
   obtain⟨dst,op,ty,pos,after,guard⟩:=o
   have still:dO T op env' h (λv=>zE P T ops.toList h K rest (fZ env' dst v))->Oper.quiet P ⟨dst,op,ty,pos,after,guard⟩ a (dt w) (wpQuiet P ops (dt w) Q rest):=λg=>by
    obtain⟨v,val,i,hv,U⟩:=oY (P:=P) (env:=env') z d.core.heap d.tmps (dst:=dst) (ty:=ty) (pos:=pos) (after:=after) (guard:=guard) g;refine⟨val,λw' q=>?_,vh z ops h w μ S A rest _ _ i s (d.put Fr.refl d.core hv r)⟩;unfold Oper.quietAt;rw[U w' q];exact⟨rfl,rfl⟩
   cases op with
   | call c=>
    obtain⟨D,args,ts⟩:=c;cases D with
    | value E=>
     have M:=dG d.tmps E;change adk P (ev env' E) (args.toList.map (ev env')) h _ at g
     unfold adk at g;split at g
     ·rename_i f F;rw[F]at M;replace g:=cn g;obtain⟨V,nA,v,W,G,⟨⟨fn,c,H,X,Y⟩,Z⟩,i⟩:=g;obtain⟨n,i⟩:=cn i;refine⟨HO v,λw' q=>?_,vh z ops h w μ S A rest _ _ i s (d.put Fr.refl d.core (tn n) r)⟩;have I:=d.agree q;obtain⟨N,J⟩:=wx.get _ _ W;have O:=(AI (k:=[]) (η:=[]) (m:=0) I.core trivial rfl).1
      have Nc:=Z w' (args.map a.eval) (nr μ h []) (HM μ h [] S) O.heap O.ok (by simpa using N.symm) (λj L hj=>by
       have R:j<args.toList.length:=by have:=(abF.1 hj).1;simpa[N]using this
       have hx:(args.toList.map (ev env'))[j]? =some (ev env' args.toList[j]):=by rw[aRs,abL R];rfl
       refine⟨a.eval args.toList[j],by rw[aTf];have:=abL R;simp only[aRP]at this;rw[this];rfl,?_⟩;have hv:=(xA (k:=[]) (η:=[]) (m:=0) I.core trivial (J j _ L hx hj)).2.2 _ (dG I.tmps args.toList[j]);have qp:=(aRg.1 G) L (aRq hj);cases L with
       | gJ ps=>cases qp
       | _=>exact hv)
      have oX:(execOp a.eval ⟨dst,.call ⟨.value E,args,ts⟩,ty,pos,after,guard⟩).run P w'=.ok (.enter f (args.map a.eval)) w':=by
       simp only[execOp,resolve,M.ab8,Deferred.ofValue,invoke,callFunc,Sem.run_bind,Sem.run_pure,Result.andThen_ok,Array.append_empty,aSS];have E6:¬fn.name= "runtime.NumGoroutine" :=by simpa using Y
       simp [program,Sem.run,Result.andThen,H,E6,X]
      unfold Oper.quietAt;rw[oX];refine⟨rfl,Nc.mono λe x ⟨u,res,h',μ',S',he,hR,hv,hH,hM,y⟩=>?_⟩;subst hR;have hu:=(Fg (w':=w) (μ':=μ) (h':=h) (S':=S) n (tn (w:=x) (μ:=μ') (h:=h') (S:=S') n)).1;have Hq:=(Fg (w':=x) (μ':=μ') (h':=h') (S':=S') n (tn (w:=w) (μ:=μ) (h:=h) (S:=S) n)).2 u hv;refine⟨by rw[he,Hq],q.trans ⟨λb hb=>y.blocks b hb mv,y.size,y.os,y.tape,y.output⟩⟩
     ·exact g.elim
    | _=>exact still g
   | _=>exact still g
  have skip:∀env',qb C μ h S env' a w->zE P T ops.toList h K rest (fZ env' o.dst (.gJ []))->wpQuiet P ops (dt w) Q rest (a.put o.dst undef):=λenv' d g=>
   vh z ops h w μ S A rest _ _ g s (d.put Fr.refl d.core zA r)
  unfold wpQuiet;cases hg:o.guard with
  | none=>
   have hp:qop P T o.op env h (λv=>zE P T ops.toList h K rest (fZ env o.dst v)):=by
    exact aTH
   rw[At (by simp [Region.wanted,hg])];exact run env hs hp
  | some p=>
   obtain⟨j,want⟩:=p;rw[Rc ops.toList o rest env h hg]at hp;split at hp
   ·rename_i t hj;split at hp
    ·rename_i b he;have hy:=zy hs hj he;obtain⟨B,hf⟩:=lX hp;have d:=hs.Fa he;cases b with
     | true=>
      have hp:=B rfl;cases want with
      | true=>rw[At aUT];exact run _ d hp
      | false=>rw[As aUT];exact skip _ d hp
     | false=>
      have hp:=hf rfl;cases want with
      | true=>rw[As aUT];exact skip _ d hp
      | false=>rw[At aUT];exact run _ d hp
    ·rename_i he;rw[As aVo];exact skip _ hs hp
    ·exact aUd
   ·exact aUd
theorem BR:∀(σ:List (Nat×PV)) (t:Nat),Az h η k env σ->(∃v,Fz h η k (env t) v/\C2 qK σ t=v)\/C2 qK σ t=.kB
 | [],t,_=>.inr rfl
 | (b,v)::r,t,hh=>by
  obtain⟨h1,h2⟩:=hh;by_cases a:t=b
  ·subst a;exact .inl ⟨v,h1,by simp [C2,E9]⟩
  ·simp only[C2];rw[J6 _ _ a];exact BR r t h2
theorem HP (hs:qb C μ h S env a w) {σ:List (Nat×PV)} (c:AA C.h.length env h σ η):∃μ' S',qb C μ' η S' (C2 qK σ) a w:=by
 obtain⟨k,b,hm,he,hh⟩:=c;obtain⟨d,_,_⟩:=AI hs.core hh b;refine⟨nr μ h k,HM μ h k S,d,akS hs.core hs.fr hh b hm,λt=>?_,hs.size,λt e=>?_,hs.defers⟩
 ·rcases BR σ t he with⟨v,h1,h2⟩ | h1
  ·rw[h2];exact(xA hs.core hh h1).2.2 _ (hs.tmps t)
  ·rw[h1];trivial
 ·rcases BR σ t he with⟨v,h1,h2⟩ | h1
  ·rw[hs.far t e]at h1;rw[h2];cases h1;rfl
  ·exact h1
theorem Fb.mono {Q b:XQ} {e:Exit} {w:World} (hq:∀env h,Q e env h->b e env h) (c:Fb C Q e a w):Fb C b e a w:=by
 obtain⟨μ,h,S,env,hs,d⟩:=c;exact⟨μ,h,S,env,hs,hq env h d⟩
theorem sR:∀(l:List Nat) (x:Nat),qA l x=true->x∈l
 | [],_,h=>by cases h
 | a::r,x,h=>by
  unfold qA at h;split at h
  ·rename_i b;have:=amb b;simp [this]
  ·exact aRG _ (sR r x h)
theorem vi (l:fL P T) (ops:Array Oper) {K:Env->List ao->Prop} {Q:Exit->Act->World->Prop} {next:Act->World->Prop} (k:∀env h a w μ S,K env h->qb C μ h S env a w->next a w) (i:Nat) (o:Oper) (ho:ops[i]? =some o)
  (hd:rL C.nt o=true) (env:Env) (h:List ao) (a:Act) (w:World) (μ:Mu) (S:Nat->Prop) (hp:xB P T ops.toList K [o] env h) (hs:qb C μ h S env a w):wpOp P ops Q i next a w:=by
 have d:∀t,o.dst=some t->t<C.nt:=λt e=>by
  unfold rL at hd;rw[e]at hd;simpa using hd
 have run:∀env',qb C μ h S env' a w->pop P T o.op env' h (λv h'=>K (fZ env' o.dst v) h')->o.wp P a w next Q:=λenv' c f=>by
  obtain⟨dst,op,ty,pos,after,guard⟩:=o;refine HJ (env:=env') l c.core c.tmps f _ _ λv val h' μ' S' w' g hv hc hf=>?_;exact k _ h' _ w' μ' S' g (c.put hf hc hv d)
 have skip:∀env',qb C μ h S env' a w->K (fZ env' o.dst (.gJ [])) h->next (a.put o.dst undef) w:=λenv' c f=>
  k _ h _ w μ S f (c.put Fr.refl c.core zA d)
 unfold wpOp;simp only[ho];cases hg:o.guard with
 | none=>
  have hp:pop P T o.op env h (λv h'=>K (fZ env o.dst v) h'):=by
   exact aTH
  rw[At (by simp [Region.wanted,hg])];exact .inl (run env hs hp)
 | some p=>
  obtain⟨j,want⟩:=p;rw[zB ops.toList o [] env h hg]at hp;split at hp
  ·rename_i t hj;split at hp
   ·rename_i b he;have hy:=zy hs hj he;obtain⟨e,hf⟩:=lX hp;have c:=hs.Fa he;cases b with
    | true=>
     have hp:=e rfl;cases want with
     | true=>rw[At aUT];exact .inl (run _ c hp)
     | false=>rw[As aUT];exact skip _ c hp
    | false=>
     have hp:=hf rfl;cases want with
     | true=>rw[As aUT];exact skip _ c hp
     | false=>rw[At aUT];exact .inl (run _ c hp)
   ·rename_i he;rw[As aVo];exact skip _ hs hp
   ·exact aUd
  ·exact aUd
theorem adl {op:Op} {env:Env} {h:List ao} {G:PV->List ao->Prop} (hs:dO T op env h (λv=>G v h)):pop P T op env h G:=by
 cases op with
 | store t a x=>exact hs.elim
 | box t x=>exact hs.elim
 | alloc t=>exact hs.elim
 | makeSlice t l c=>exact hs.elim
 | buildSlice t len parts=>exact hs.elim
 | convert s d x=>
  simp only[pop];split
  ·rename_i e e2 f;simp only[dO,e,e2,f]at hs
  ·exact hs
 | binOp g t x y ty=>
  simp only[pop];split
  ·rename_i e e2 f;simp only[dO,UL,e,e2,f]at hs
  ·exact hs
 | makeMap t r=>exact hs.elim
 | mapUpdate t m k x=>exact hs.elim
 | call c=>
  obtain⟨callee,args,ts⟩:=c;cases callee with
  | value i=>exact hs.elim
  | builtin b=>cases b with
   | append=>exact hs.elim
   | copy=>exact hs.elim
   | _=>(simp only[pop];exact hs)
  | _=>(simp only[pop];exact hs)
 | _=>(simp only[pop];exact hs)
theorem Fh {st:Bool} {op:Op} {env:Env} {h:List ao} {G:PV->List ao->Prop} (hs:GL P T st op env h G):pop P T op env h G:=by
 cases st with
 | true=>exact adl hs
 | false=>exact hs
theorem Di {all:List Oper} {st:Bool} {o:Oper} {K:Env->List ao->Prop} {env:Env} {h:List ao} (hp:fs P T all st o (λv h'=>K (fZ env o.dst v) h') env h):xB P T all K [o] env h:=by
 unfold fs at hp;cases hg:o.guard with
 | none=>
  rw[hg]at hp;obtain⟨dst,op,ty,pos,after,guard⟩:=o;have hg:guard=none:=hg;subst hg;exact Fh hp
 | some q=>
  obtain⟨j,want⟩:=q;rw[hg]at hp;rw[zB all o [] env h hg];simp only at hp ⊢;generalize(all[j]?).bind (·.dst)=d at hp ⊢;cases d with
  | none=>exact hp.elim
  | some t=>
   simp only at hp ⊢;generalize hv:env t=v at hp ⊢;cases v with
   | bool b=>
    simp only at hp ⊢;cases b with
    | true=>
     refine .mk (λ_=>?_) (λhc=>by cases hc);rw[Dj hv];cases want with
     | true=>exact Fh hp
     | false=>exact hp
    | false=>
     refine .mk (λhc=>by cases hc) (λ_=>?_);rw[Dj hv];cases want with
     | true=>exact hp
     | false=>exact Fh hp
   | gJ l=>cases l with
    | nil=>exact hp
    | cons a r=>exact hp.elim
   | _=>exact hp.elim
inductive NR (all:List Oper):Nat->Nat->Prop
 | base {x i:Nat} (h:x∈ez all i):NR all x i
 | step {x d i:Nat} (h:d∈ez all i) (hx:NR all x d):NR all x i
theorem J7:∀(l acc:List Nat) (x:Nat),x∈ddL l acc->x∈l\/x∈acc
 | [],acc,x,h=>.inr h
 | a::r,acc,x,h=>by
  unfold ddL at h;cases hi:qA acc a with
  | true=>rw[hi]at h;exact(J7 r acc x h).imp (aRG _) id
  | false=>
   rw[hi]at h;rcases J7 r (a::acc) x h with h | h
   ·exact .inl (aRG _ h)
   ·simp only[aRo]at h;rcases h with rfl | h
    ·exact .inl aUG
    ·exact .inr h
theorem AJ:∀(l:List Nat) (x:Nat),x∈l->qA l x=true
 | a::r,x,h=>by
  unfold qA;cases b:Nat.beq a x with
  | true=>rfl
  | false=>
   simp only[aRo]at h;rcases h with rfl | h
   ·rw[aSD]at b;cases b
   ·exact AJ r x h
theorem BS {all:List Oper}:∀(ord:List (Nat×Bool)) (t:List (Nat×List Nat)),(∀i x,qA (ia t i) x=true->NR all x i)->∀i x,qA (ia (J8 all ord t) i) x=true->NR all x i
 | [],t,hg=>hg
 | (j,b)::r,t,hg=>BS r _ (λi x hx=>by
  unfold ia at hx;cases a:Nat.beq j i with
  | false=>rw[a]at hx;exact hg i x hx
  | true=>
   rw[a]at hx;have:=amb a;subst this;rcases J7 _ _ _ (sR _ _ hx)with hm | hm
   ·rw[aRp,List.mem_flatMap]at hm;rcases hm with hm | ⟨d,hd,hm⟩
    ·exact .base hm
    ·exact .step hd (hg d x (AJ _ _ hm))
   ·simp at hm)
theorem mg {ops:Array Oper} {t:List (Nat×List Nat)} {p:Nat×Bool}:∀(b l2:List (Nat×Bool)),dr ops t (b++p::l2)=true->(∀o,o∈b->jO ops t o p=true)/\dr ops t (b++l2)=true
 | [],l2,h=>by
  simp only[aRe,dr,No]at h;exact⟨λo ho=>by simp at ho,h.2⟩
 | a::b,l2,h=>by
  simp only[aRw,dr,No,aRg]at h ⊢;obtain⟨h1,h2⟩:=mg b l2 h.2;refine⟨λo ho=>?_,λq hq=>h.1 q (by simp only[aRp,aRo]at hq ⊢;exact hq.imp id .inr),h2⟩;simp only[aRo]at ho;rcases ho with rfl | ho
  ·exact h.1 p aUG
  ·exact h1 o ho
theorem vj {ops:Array Oper} {i:Nat} {o:Oper} (ho:ops[i]? =some o) {d:Nat}:d∈ez ops.toList i↔∃e,e∈o.after/\Region.binds .any e=true/\e.on=d:=by
 unfold ez;have:ops.toList[i]? =some o:=by simpa using ho
 rw[this];unfold adm;rw[List.mem_filterMap];constructor
 ·rintro⟨e,he,hx⟩;cases a:Region.binds .any e with
  | true=>rw[a]at hx;exact⟨e,by simpa using he,a,by simpa using hx⟩
  | false=>rw[a]at hx;cases hx
 ·rintro⟨e,he,a,hx⟩;exact⟨e,by simpa using he,by rw[a];simp [hx]⟩
theorem Ka (hT:fL P T) (ops:Array Oper) {t:List (Nat×List Nat)} (ot:∀i x,qA (ia t i) x=true->NR ops.toList x i) (A:∀i,i<ops.size->∀d,d∈ez ops.toList i->d<ops.size/\d≠i)
  {K:Env->List ao->Prop} {Q:Exit->Act->World->Prop} (hK:∀env h a w μ S,K env h->qb C μ h S env a w->Q .normal a w) (hd:∀o∈ops.toList,rL C.nt o=true):
  ∀(n:Nat) (l:List (Nat×Bool)) (m:List (Nat×List Nat)) (listed:Array Bool) (env:Env) (h:List ao) (a:Act) (w:World) (μ:Mu) (S:Nat->Prop),l.length=n->dr ops t l=true->(∀p,p∈l->p.1<ops.size)->listed.size=ops.size->
   (∀j,j<ops.size->(listed.getD j true=false↔j∈l.map (·.1)))->(∀j,j<ops.size->j∉l.map (·.1)->∀d,d∈ez ops.toList j->d∉l.map (·.1))->Rd P T ops.toList t K l m env h->qb C μ h S env a w->wpAny P .any ops Q n listed a w
 | 0,l,m,listed,env,h,a,w,μ,S,J,_,_,L,s,_,hf,hs=>by
  obtain rfl:l=[]:=aSu.1 J;refine⟨?_,hK env h a w μ S hf hs⟩;cases hr:Region.ready .any ops listed with
  | nil=>rfl
  | cons j r=>
   have hj:j∈Region.ready .any ops listed:=by rw[hr];simp
   rw[mem_ready]at hj;obtain⟨h1,o,ho,_⟩:=hj;have:=(s j (aRa.1 ho).1).1 h1;simp at this
 | n+1,l,m,listed,env,h,a,w,μ,S,J,k,bg,L,s,VE,hf,hs=>by
  have B:∀d,d<ops.size->(listed.getD d false=true↔d∉l.map (·.1)):=λd D=>by
   have:=s d D;have e:listed.getD d false=listed.getD d true:=by simp [Array.getD,L,D]
   rw[e,<-this];cases listed.getD d true<;>simp
  refine⟨λh0=>?_,λi hi=>?_⟩
  ·exfalso;cases l with
   | nil=>simp at J
   | cons p r=>
    have hp:=bg p aUG;have ho:=aRK hp
    have:p.1∈Region.ready .any ops listed:=by
     rw[mem_ready];refine⟨(s p.1 hp).2 aUG,_,ho,λe he E=>?_⟩;have hm:e.on∈ez ops.toList p.1:=(vj ho).2 ⟨e,he,E,rfl⟩;obtain⟨d1,d2⟩:=A p.1 hp _ hm;rw[B _ d1];intro hc;simp only[aRD,aRo,aRT]at hc;rcases hc with hc | ⟨q,hq,hc⟩
     ·exact d2 hc
     ·simp only[dr,No,aRg]at k;have:=k.1 q hq;unfold jO at this;simp only[No,aSb]at this;rw[hc,AJ _ _ hm]at this;exact absurd this.1.2 aUG
    rw[h0]at this;simp at this
  ·rw[mem_ready]at hi;obtain⟨h1,M,N,R⟩:=hi;have U:=(aRa.1 N).1
   have V:∀d,d∈ez ops.toList i->d∉l.map (·.1):=λd u=>by
    obtain⟨e,he,E,rfl⟩:=(vj N).1 u;exact(B _ (A i U _ u).1).1 (R e he E)
   have Kd:∀x,NR ops.toList x i->x∉l.map (·.1):=by
    have gen:∀x j,NR ops.toList x j->j<ops.size->(∀d,d∈ez ops.toList j->d∉l.map (·.1))->x∉l.map (·.1):=λx j W=>by
     induction W with
     | base hx=>exactλ_ hj=>hj _ hx
     | step u _ X=>exactλhj Y=>X (A _ hj _ u).1 (VE _ (A _ hj _ u).1 (Y _ u))
    exactλx W=>gen x i W U V
   obtain⟨p,hp,F⟩:=aRT.1 ((s i U).1 h1);obtain⟨g,l2,rfl⟩:=List.append_of_mem hp;obtain⟨c,st⟩:=p;simp only at F;subst F;obtain⟨G,Z⟩:=mg g l2 k;have Rf:ops.toList[c]? =some M:=by simpa using N
   have aa:=Nh (P:=P) (T:=T) (ops:=ops) (t:=t) (K:=K) Rf g l2 m env h (λq hq=>by
    have f:=G q hq;unfold jO at f;simp only[No,aRZ,aSb]at f;have H:q.1∈(g++(c,st)::l2).map (·.1):=aRT.2 ⟨q,by simp [hq],rfl⟩
    have I:qA (ia t c) q.1=false:=by
     cases E:qA (ia t c) q.1 with
     | false=>rfl
     | true=>exact absurd H (Kd _ (ot _ _ E))
    rcases f.2 with BD | ⟨ad,y⟩
    ·exact absurd H (V _ (sR _ _ BD))
    ·refine⟨?_,I,ad⟩;rcases y with y | y
     ·exact y
     ·rw[I]at y;cases y) hf
   have qp:∀q,q∈g++l2->q.1≠c:=λq hq=>by
    rw[aRp]at hq;rcases hq with hq | hq
    ·have f:=G q hq;unfold jO at f;simp only[No,aSb]at f;intro he;have this:Nat.beq q.1 c=false:=f.1.1;rw[he,aSD]at this;cases this
    ·have:∀(g:List (Nat×Bool)),dr ops t (g++(c,st)::l2)=true->jO ops t (c,st) q=true:=λg=>by
      induction g with
      | nil=>intro hh;simp only[aRe,dr,No,aRg]at hh;exact hh.1 q hq
      | cons b r X=>intro hh;simp only[aRw,dr,No]at hh;exact X hh.2
     have f:=this g k;unfold jO at f;simp only[No,aSb]at f;intro he;have:=f.1.1;rw[he]at this;rw[aSD]at this;cases this
   have O:∀j,j∈(g++(c,st)::l2).map (·.1)↔j=c\/j∈(g++l2).map (·.1):=λj=>by
    simp only[aSE,aRD,aRp,aRo];constructor
    ·rintro(h | h | h)
     ·exact .inr (.inl h)
     ·exact .inl h
     ·exact .inr (.inr h)
    ·rintro(h | h | h)
     ·exact .inr (.inl h)
     ·exact .inl h
     ·exact .inr (.inr h)
   have ag:c∉(g++l2).map (·.1):=λhm=>by
    obtain⟨q,hq,he⟩:=aRT.1 hm;exact qp q hq he
   have Fi:xB P T ops.toList (λenv' h'=>Rd P T ops.toList t K (g++l2) m env' h') [M] env h:=Di (jJ (λv h' f=>f.2.2) aa);refine vi hT ops (λenv' h' a' w' μ' S' f mX=>Ka hT ops ot A hK hd n (g++l2) m _ env' h' a' w' μ' S' (by simp at J ⊢;omega) Z (λq hq=>bg q (by rw[aRp]at hq ⊢;exact hq.imp id (aRG _))) (by simpa using L) (λj hj=>?_) (λj hj a1 dd NQ=>?_) f mX) c M N (hd M (by have:=(abF.1 Rf);obtain⟨h1,h2⟩:=this;rw[<-h2];exact aRr h1)) env h a w μ S Fi hs
   ·by_cases z:j=c
    ·subst z;constructor
     ·intro hc;have:(listed.setIfInBounds j true).getD j true=true:=by simp [Array.getD,L,hj]
      rw[this]at hc;cases hc
     ·intro hc;exact absurd hc ag
    ·have e:(listed.setIfInBounds c true).getD j true=listed.getD j true:=getD_set_ne true (aSA z);rw[e,s j hj,O j];constructor
     ·rintro(h | h)
      ·exact absurd h z
      ·exact h
     ·exact .inr
   ·by_cases z:j=c
    ·subst z;exactλhm=>V dd NQ ((O dd).2 (.inr hm))
    ·exactλhm=>VE j hj (λhc=>by rcases(O j).1 hc with hc | hc;exact z hc;exact a1 hc) dd NQ ((O dd).2 (.inr hm))
theorem Fj {ops:Array Oper} {listed:Array Bool} {i:Nat} {L L':List Nat} (b:∀j,j∈L↔j=i\/j∈L') (c:i∉L') (k:listed.size=ops.size) (l:∀j,j<ops.size->(listed.getD j true=false↔j∈L))
  (m:∀j,j<ops.size->j∉L->∀d,d∈ez ops.toList j->d∉L) (n:∀d,d∈ez ops.toList i->d∉L):
  (∀j,j<ops.size->((listed.setIfInBounds i true).getD j true=false↔j∈L'))/\∀j,j<ops.size->j∉L'->∀d,d∈ez ops.toList j->d∉L':=by
 refine⟨λj hj=>?_,λj hj f d g hm=>?_⟩
 ·by_cases a:j=i
  ·subst a;constructor
   ·intro hc;have:(listed.setIfInBounds j true).getD j true=true:=by simp [Array.getD,k,hj]
    rw[this]at hc;cases hc
   ·intro hc;exact absurd hc c
  ·have e:(listed.setIfInBounds i true).getD j true=listed.getD j true:=getD_set_ne true (aSA a);rw[e,l j hj,b j];exact⟨λh=>h.resolve_left a,.inr⟩
 ·by_cases a:j=i
  ·subst a;exact n d g ((b d).2 (.inr hm))
  ·exact m j hj (λhc=>by rcases(b j).1 hc with hc | hc;exact a hc;exact f hc) d g ((b d).2 (.inr hm))
theorem xV {ops:Array Oper} {t:List (Nat×List Nat)} {p q:Nat×Bool} (h:jO ops t p q=true):p.1≠q.1:=by
 unfold jO at h;simp only[No,aSb]at h;intro he;have:=h.1.1;rw[he,aSD]at this;cases this
theorem Rg {ops:Array Oper} {t:List (Nat×List Nat)} {p q:Nat×Bool} (h:jO ops t p q=true):q.1∉ez ops.toList p.1:=by
 unfold jO at h;simp only[No,aSb]at h;intro hm;have:=h.1.2;rw[AJ _ _ hm]at this;cases this
theorem rM {ops:Array Oper} {t:List (Nat×List Nat)} {p q:Nat×Bool}:∀(a l2:List (Nat×Bool)),dr ops t (a++p::l2)=true->q∈l2->jO ops t p q=true
 | [],l2,h,hq=>by simp only[aRe,dr,No,aRg]at h;exact h.1 q hq
 | _::a,l2,h,hq=>by simp only[aRw,dr,No]at h;exact rM a l2 h.2 hq
theorem Fk {ops:Array Oper} {t:List (Nat×List Nat)} (g:∀i x,qA (ia t i) x=true->NR ops.toList x i) {L:List Nat} {q:Nat×Bool} {i:Nat} {st:Bool} (e:jO ops t q (i,st)=true) (b:q.1∈L) (h:∀d,d∈ez ops.toList i->d∉L) (j:∀x,NR ops.toList x i->x∉L):
  q.2=true/\qA (ia t i) q.1=false/\xW ops q.1 i=true:=by
 unfold jO at e;simp only[No,aRZ,aSb]at e
 have c:qA (ia t i) q.1=false:=by
  cases k:qA (ia t i) q.1 with
  | false=>rfl
  | true=>exact absurd b (j _ (g _ _ k))
 rcases e.2 with l | ⟨f,a⟩
 ·exact absurd b (h _ (sR _ _ l))
 ·refine⟨?_,c,f⟩;rcases a with a | a
  ·exact a
  ·rw[c]at a;cases a
def Left (ops:Array Oper) (l:List (Nat×Bool)) (R:List Nat) (listed:Array Bool):Prop:=
 listed.size=ops.size/\(∀j,j<ops.size->(listed.getD j true=false↔j∈l.map (·.1)++R))/\∀j,j<ops.size->j∉l.map (·.1)++R->∀d,d∈ez ops.toList j->d∉l.map (·.1)++R
def Snd (P:Program) (T:ru) (C:Start) (ops:Array Oper) (t:List (Nat×List Nat)) (Q:Exit->Act->World->Prop) (E:List (Nat×List Nat)->Env->List ao->Prop) (R:List Nat) (c:List (Nat×Bool)->Prop):Prop:=
 ∀(l:List (Nat×Bool)) (b:List (Nat×List Nat)) (listed:Array Bool) (env:Env) (h:List ao) (a:Act) (w:World) (μ:Mu) (S:Nat->Prop),c l->(∀p,p∈l->p.1<ops.size)->Left ops l R listed->
  nD P T ops.toList t E l b env h->qb C μ h S env a w->wpAny P .any ops Q (l.length+R.length) listed a w
theorem Ts (f:fL P T) (ops:Array Oper) {t:List (Nat×List Nat)} (g:∀i x,qA (ia t i) x=true->NR ops.toList x i) (j:∀i,i<ops.size->∀d,d∈ez ops.toList i->d<ops.size/\d≠i)
  {K:Env->List ao->Prop} {Q:Exit->Act->World->Prop} (k:∀env h a w μ S,K env h->qb C μ h S env a w->Q .normal a w) (hd:∀o∈ops.toList,rL C.nt o=true) (A:List (Nat×Bool)) (m:∀p,p∈A->p.1<ops.size):
  Snd P T C ops t Q (λb env h=>Rd P T ops.toList t K A b env h) (A.map (·.1)) (λl=>dr ops t (l++A)=true):=by
 intro l b listed env h a w μ S hc n hL hf hs;obtain⟨r,c,e⟩:=hL;rw[show l.length+(A.map (·.1)).length=(l++A).length from by simp];rw[<-aSE]at c e;exact Ka f ops g j k hd _ (l++A) b listed env h a w μ S rfl hc (λp hp=>by rcases aRp.1 hp with q | q;exact n p q;exact m p q) r c e (xE l b env h hf) hs
theorem ag2 {ops:Array Oper} {t:List (Nat×List Nat)} {Q:Exit->Act->World->Prop} {E:List (Nat×List Nat)->Env->List ao->Prop} {R:List Nat} {c:List (Nat×Bool)->Prop} (f:Snd P T C ops t Q E R c) (b:List (Nat×Bool)) (h1:∀p,p∈b->p.1<ops.size):
  Snd P T C ops t Q (λd env h=>nD P T ops.toList t E b d env h) (b.map (·.1)++R) (λl=>c (l++b)):=by
 intro l d listed env h a w μ S hc g hL hf hs;have e:(l++b).map (·.1)++R=l.map (·.1)++(b.map (·.1)++R):=by simp
 have:=f (l++b) d listed env h a w μ S hc (λp hp=>by rcases aRp.1 hp with q | q;exact g p q;exact h1 p q) (by unfold Left;rw[e];exact hL) (xF l d env h hf) hs;rw[show l.length+(b.map (·.1)++R).length=(l++b).length+R.length from by simp;omega];exact this
structure BrC (ops:Array Oper) (t:List (Nat×List Nat)) (x y:Nat) (R:List Nat) (cX cY:List (Nat×Bool)->Prop) (l:List (Nat×Bool)):Prop where
 pw:dr ops t l=true
 hd:∀p,p∈l->jO ops t p (x,false)=true/\jO ops t p (y,false)=true/\(∀d,d∈ez ops.toList p.1->d∉R)/\p.1∉R
 x:cX l
 y:cY l
theorem asp (hT:fL P T) (ops:Array Oper) {t:List (Nat×List Nat)} (L:∀i x,qA (ia t i) x=true->NR ops.toList x i) (M:∀i,i<ops.size->∀d,d∈ez ops.toList i->d<ops.size/\d≠i)
  {Q:Exit->Act->World->Prop} (hd:∀o∈ops.toList,rL C.nt o=true) {x y:Nat} {b B:List Nat} {D E:List (Nat×List Nat)->Env->List ao->Prop} {cX cY:List (Nat×Bool)->Prop} (N:vI D) (O:vI E)
  (hX:Snd P T C ops t Q D b cX) (hY:Snd P T C ops t Q E B cY) (ad:∀g p l2,cX (g++p::l2)->cX (g++l2)) (ag:∀g p l2,cY (g++p::l2)->cY (g++l2))
  (hlen:b.length=B.length) (R:∀j,j∈x::b↔j∈y::B) (a1:x<ops.size) (a2:∀d,d∈ez ops.toList x->d∉x::b) (a3:x∉b) (a4:y∉B) (a5:∀j,j∈b->j=y\/qA (ia t j) x=true\/qA (ia t j) y=true):
  Snd P T C ops t Q (λc env h=>nD P T ops.toList t D [(x,false)] c env h/\nD P T ops.toList t E [(y,false)] c env h) (x::b) (BrC ops t x y (x::b) cX cY):=by
 have hE:vI (λc env h=>nD P T ops.toList t D [(x,false)] c env h/\nD P T ops.toList t E [(y,false)] c env h):=HQ (rN N _) (rN O _);intro l;generalize hn:l.length=n;induction n generalizing l with
 | zero=>?z
 | succ n ih=>?s
 all_goals
  intro c listed env h a w μ S hc bg hL hf hs;obtain⟨F,I,VE⟩:=hL
  have U:∀d,d<ops.size->(listed.getD d false=true↔d∉l.map (·.1)++x::b):=λd V=>by
   have:=I d V;have e:listed.getD d false=listed.getD d true:=by simp [Array.getD,F,V]
   rw[e,<-this];cases listed.getD d true<;>simp
  refine⟨λh0=>?_,λi hi=>?_⟩
 case z.refine_1 | s.refine_1=>
  exfalso
  have first:∃p,p<ops.size/\p∈l.map (·.1)++x::b/\∀d,d∈ez ops.toList p->d∉l.map (·.1)++x::b:=by
   cases l with
   | nil=>exact⟨x,a1,by simp,λd W hm=>a2 d W (by simpa using hm)⟩
   | cons p r=>
    have hp:=bg p aUG;refine⟨p.1,hp,by simp,λd W hm=>?_⟩;rw[aRp]at hm;rcases hm with hm | hm
    ·simp only[aRD,aRo,aRT]at hm;rcases hm with rfl | ⟨q,hq,rfl⟩
     ·exact(M _ hp _ W).2 rfl
     ·exact Rg (rM [] _ hc.pw hq) W
    ·exact(hc.hd p aUG).2.2.1 d W hm
  obtain⟨p,hp,a6,a8⟩:=first
  have ho:=aRK hp
  have:p∈Region.ready .any ops listed:=by
   rw[mem_ready];refine⟨(I p hp).2 a6,_,ho,λe he hb=>?_⟩;have hm:e.on∈ez ops.toList p:=(vj ho).2 ⟨e,he,hb,rfl⟩;rw[U _ (M p hp _ hm).1];exact a8 _ hm
  rw[h0]at this;simp at this
 all_goals
  rw[mem_ready]at hi;obtain⟨h1,A,J,a9⟩:=hi;have vG:=(aRa.1 J).1;have Rf:ops.toList[i]? =some A:=by simpa using J
  have G:rL C.nt A=true:=hd A (by obtain⟨h1,h2⟩:=abF.1 Rf;rw[<-h2];exact aRr h1)
  have H:∀d,d∈ez ops.toList i->d∉l.map (·.1)++x::b:=λd K=>by
   obtain⟨e,he,hb,rfl⟩:=(vj J).1 K;exact(U _ (M i vG _ K).1).1 (a9 e he hb)
  have X:∀z,NR ops.toList z i->z∉l.map (·.1)++x::b:=by
   have gen:∀z j,NR ops.toList z j->j<ops.size->(∀d,d∈ez ops.toList j->d∉l.map (·.1)++x::b)->z∉l.map (·.1)++x::b:=λz j ha=>by
    induction ha with
    | base hx=>exactλ_ hj=>hj _ hx
    | step K _ ih=>exactλhj bj=>ih (M _ hj _ K).1 (VE _ (M _ hj _ K).1 (bj _ K))
   exactλz ha=>gen z i ha vG H
  have bo:y∈x::b:=(R y).2 aUG;have f:=(I i vG).1 h1;rw[aRp]at f
  have split:i∈l.map (·.1)\/i=x\/i=y:=by
   rcases f with f | f
   ·exact .inl f
   ·rcases aRo.1 f with rfl | hq
    ·exact .inr (.inl rfl)
    ·rcases a5 i hq with h2 | h2 | h2
     ·exact .inr (.inr h2)
     ·exact absurd (by simp:x∈l.map (·.1)++x::b) (X _ (L _ _ h2))
     ·exact absurd (by rw[aRp];exact .inr bo) (X _ (L _ _ h2))
  have br:∀q,q∈l->q.1∉x::b:=λq hq=>(hc.hd q hq).2.2.2;rcases split with f | rfl | rfl
 case z.refine_2.inl=>obtain rfl:=aSu.1 hn;simp at f
 case s.refine_2.inl=>
  obtain⟨p,hp,Y⟩:=aRT.1 f;obtain⟨g,l2,rfl⟩:=List.append_of_mem hp;obtain⟨Z,st⟩:=p;simp only at Y;subst Y;obtain⟨aa,bs⟩:=mg g _ hc.pw;have k:=xX hE (P:=P) (T:=T) (ops:=ops) (t:=t) Rf g l2 c env h (λq hq=>Fk L (aa q hq) (by rw[aRp];exact .inl (aRT.2 ⟨q,List.mem_append_left _ hq,rfl⟩)) H X) hf
  have m:Z∉(g++l2).map (·.1)++x::b:=λhm=>by
   rw[aRp]at hm;rcases hm with hm | hm
   ·obtain⟨q,hq,he⟩:=aRT.1 hm;rcases aRp.1 hq with hq | hq
    ·exact xV (aa q hq) he
    ·exact xV (rM g _ hc.pw hq) he.symm
   ·exact br (Z,st) aUG hm
  obtain⟨r1,r2⟩:=Fj (L':=(g++l2).map (·.1)++x::b) (λj=>by
   simp only[aSE,aRD,aRp,aRo];constructor
   ·rintro((h | h | h) | h)
    ·exact .inr (.inl (.inl h))
    ·exact .inl h
    ·exact .inr (.inl (.inr h))
    ·exact .inr (.inr h)
   ·rintro(h | (h | h) | h)
    ·exact .inl (.inr (.inl h))
    ·exact .inl (.inl h)
    ·exact .inl (.inr (.inr h))
    ·exact .inr h) m F I VE H
  have Fi:xB P T ops.toList (λenv' h'=>nD P T ops.toList t (λc env h=>nD P T ops.toList t D [(x,false)] c env h/\nD P T ops.toList t E [(y,false)] c env h) (g++l2) c env' h') [A] env h:=Di (jJ (λv h' u=>u.2.2) k)
  have bt:BrC ops t x y (x::b) cX cY (g++l2):=⟨bs,λq hq=>hc.hd q (by
   simp only[aRp,aRo]at hq ⊢;exact hq.imp id .inr),ad _ _ _ hc.x,ag _ _ _ hc.y⟩
  have q:wpOp P ops Q Z (wpAny P .any ops Q (n+(x::b).length) (listed.setIfInBounds Z true)) a w:=vi hT ops (λenv' h' a' w' μ' S' u mX=>ih (g++l2) (by simp at hn ⊢;omega) c _ env' h' a' w' μ' S' bt (λq hq=>bg q (by
   simp only[aRp,aRo]at hq ⊢;exact hq.imp id .inr)) ⟨by simpa using F,r1,r2⟩ u mX) Z A J G env h a w μ S Fi hs
  rw[show n+(x::b).length=n+1+b.length from by simp;omega]at q;exact q
 case z.refine_2.inr.inl | s.refine_2.inr.inl=>
  have Da:nD P T ops.toList t D (l++[(i,false)]) c env h:=xF l c env h (AK (λ_ _ _ q=>q.1) l c env h hf);have k:=xX N (P:=P) (T:=T) (ops:=ops) (t:=t) Rf l [] c env h (λq hq=>Fk L (hc.hd q hq).1 (by rw[aRp];exact .inl (aRT.2 ⟨q,hq,rfl⟩)) H X) Da
  have m:i∉l.map (·.1)++b:=λhm=>by
   rcases aRp.1 hm with hm | hm
   ·obtain⟨q,hq,he⟩:=aRT.1 hm;exact xV (hc.hd q hq).1 he
   ·exact a3 hm
  obtain⟨r1,r2⟩:=Fj (L':=l.map (·.1)++b) (λj=>by
   simp only[aRp,aRo];constructor
   ·rintro(h | h | h)
    ·exact .inr (.inl h)
    ·exact .inl h
    ·exact .inr (.inr h)
   ·rintro(h | h | h)
    ·exact .inr (.inl h)
    ·exact .inl h
    ·exact .inr (.inr h)) m F I VE H
  have Fi:xB P T ops.toList (λenv' h'=>nD P T ops.toList t D l c env' h') [A] env h:=Di (jJ (λv h' u=>by have:=u.2.2;rwa [aRz]at this) k);have q:wpOp P ops Q i (wpAny P .any ops Q (l.length+b.length) (listed.setIfInBounds i true)) a w:=vi hT ops (λenv' h' a' w' μ' S' u mX=>hX l c _ env' h' a' w' μ' S' hc.x bg ⟨by simpa using F,r1,r2⟩ u mX) i A J G env h a w μ S Fi hs;rw[hn]at q;exact q
 case z.refine_2.inr.inr | s.refine_2.inr.inr=>
  have Da:nD P T ops.toList t E (l++[(i,false)]) c env h:=xF l c env h (AK (λ_ _ _ q=>q.2) l c env h hf);have k:=xX O (P:=P) (T:=T) (ops:=ops) (t:=t) Rf l [] c env h (λq hq=>Fk L (hc.hd q hq).2.1 (by rw[aRp];exact .inl (aRT.2 ⟨q,hq,rfl⟩)) H X) Da
  have m:i∉l.map (·.1)++B:=λhm=>by
   rcases aRp.1 hm with hm | hm
   ·obtain⟨q,hq,he⟩:=aRT.1 hm;exact xV (hc.hd q hq).2.1 he
   ·exact a4 hm
  obtain⟨r1,r2⟩:=Fj (L':=l.map (·.1)++B) (λj=>by
   rw[aRp,R j,aRp];simp only[aRo];constructor
   ·rintro(h | h | h)
    ·exact .inr (.inl h)
    ·exact .inl h
    ·exact .inr (.inr h)
   ·rintro(h | h | h)
    ·exact .inr (.inl h)
    ·exact .inl h
    ·exact .inr (.inr h)) m F I VE H
  have Fi:xB P T ops.toList (λenv' h'=>nD P T ops.toList t E l c env' h') [A] env h:=Di (jJ (λv h' u=>by have:=u.2.2;rwa [aRz]at this) k);have q:wpOp P ops Q i (wpAny P .any ops Q (l.length+B.length) (listed.setIfInBounds i true)) a w:=vi hT ops (λenv' h' a' w' μ' S' u mX=>hY l c _ env' h' a' w' μ' S' hc.y bg ⟨by simpa using F,r1,r2⟩ u mX) i A J G env h a w μ S Fi hs;rw[hn,<-hlen]at q;exact q
theorem xG {ops:Array Oper} {t:List (Nat×List Nat)}:∀(l A:List (Nat×Bool)),dr ops t (l++A)=true->dr ops t l=true
 | [],_,_=>rfl
 | p::l,A,h=>by
  simp only[aRw,dr,No,aRg]at h ⊢;exact⟨λq hq=>h.1 q (List.mem_append_left _ hq),xG l A h.2⟩
theorem HR {ops:Array Oper} {t:List (Nat×List Nat)} {ord:List (Nat×Bool)} {x y:Nat} {a b:List Nat} (h:ado ops t ord x y a b=true):
  a.length=b.length/\(∀p,p∈ord->jO ops t p (x,false)=true/\jO ops t p (y,false)=true/\(∀d,d∈ez ops.toList p.1->d∉x::a)/\p.1∉x::a)/\(∀j,j∈x::a↔j∈y::b)/\
  (∀d,d∈ez ops.toList x->d∉x::a)/\x∉a/\y∉b/\(∀j,j∈a->j=y\/qA (ia t j) x=true\/qA (ia t j) y=true):=by
 unfold ado at h;simp only[No]at h;obtain⟨⟨⟨⟨⟨⟨⟨h1,h2⟩,c⟩,e⟩,f⟩,k⟩,l⟩,g⟩:=h;rw[aRg]at h2 c e f g;have no:∀(L:List Nat) (z:Nat),(!(qA L z))=true->z∉L:=λL z i hm=>by rw[AJ _ _ hm]at i;cases i
 refine⟨amb h1,λp hp=>?_,λj=>⟨λhj=>sR _ _ (c j hj),λhj=>sR _ _ (e j hj)⟩,λd hd=>no _ _ (f d hd),no _ _ k,no _ _ l,λj hj=>?_⟩
 ·have:=h2 p hp;rw[No,No,No,aRg]at this;exact⟨this.1.1.1,this.1.1.2,λd m=>no _ _ (this.1.2 d m),no _ _ this.2⟩
 ·have:=g j hj;rw[aRZ,aRZ]at this;rcases this with(q | q) | q
  ·exact .inl (amb q)
  ·exact .inr (.inl q)
  ·exact .inr (.inr q)
def ag3 (P:Program) (T:ru) (all:List Oper) (t:List (Nat×List Nat)) (K:Env->List ao->Prop) (fin:List (Nat×Bool)):sS->List (Nat×List Nat)->Env->List ao->Prop
 | []=>λa env h=>Rd P T all t K fin a env h
 | c::r=>λa env h=>nD P T all t (λa env h=>nD P T all t (ag3 P T all t K fin r) [(c.2.1,false)] a env h/\nD P T all t (λa env h=>Rd P T all t K c.2.2.2 a env h) [(c.2.2.1,false)] a env h) c.1 a env h
theorem Fl {all:List Oper} {t:List (Nat×List Nat)} {K:Env->List ao->Prop} {fin:List (Nat×Bool)}:∀(cs:sS),vI (ag3 P T all t K fin cs)
 | []=>BT fin
 | c::r=>rN (HQ (rN (Fl r) _) (rN (BT c.2.2.2) _)) c.1
theorem Tt {all:List Oper} {t:List (Nat×List Nat)} {K:Env->List ao->Prop} {fin:List (Nat×Bool)}:∀(cs:sS) (a:List (Nat×List Nat)) (env:Env) (h:List ao),fwC P T all t K fin cs a env h->ag3 P T all t K fin cs a env h
 | [],a,env,h,q=>ui _ _ _ _ q
 | c::r,a,env,h,q=>sT (λa env h q=>⟨sT (Tt r) _ a env h q.1,ui _ _ _ _ q.2⟩) c.1 a env h q
def cbC (ops:Array Oper) (t:List (Nat×List Nat)) (fin:List (Nat×Bool)):sS->List (Nat×Bool)->Prop
 | []=>λl=>dr ops t (l++fin)=true
 | c::r=>λl=>BrC ops t c.2.1 c.2.2.1 (c.2.1::(GM r fin).map (·.1)) (cbC ops t fin r) (λl=>dr ops t (l++c.2.2.2)=true) (l++c.1)
theorem Tu {ops:Array Oper} {t:List (Nat×List Nat)} {fin:List (Nat×Bool)}:∀(cs:sS) (a:List (Nat×Bool)) (p:Nat×Bool) (l2:List (Nat×Bool)),cbC ops t fin cs (a++p::l2)->cbC ops t fin cs (a++l2)
 | [],a,p,l2,q=>by
  have q:dr ops t ((a++p::l2)++fin)=true:=q;show dr ops t ((a++l2)++fin)=true;rw[aRm]at q ⊢;exact(mg a _ q).2
 | c::r,a,p,l2,q=>by
  obtain⟨q1,f,d,b⟩:=q;rw[aRm a]at q1 d;have b:dr ops t ((a++p::l2++c.1)++c.2.2.2)=true:=b;rw[aRm a (p::l2) c.1]at b;have e:a++l2++c.1=a++(l2++c.1):=aRm _ _ _;show BrC ops t c.2.1 c.2.2.1 (c.2.1::(GM r fin).map (·.1)) (cbC ops t fin r) (λl=>dr ops t (l++c.2.2.2)=true) (a++l2++c.1);rw[e];refine⟨(mg a _ q1).2,λs hs=>f s ?_,Tu r a p (l2++c.1) d,?_⟩
  ·simp only[aRp,aRo]at hs ⊢;rcases hs with hs | hs | hs
   ·exact .inl (.inl hs)
   ·exact .inl (.inr (.inr hs))
   ·exact .inr hs
  ·have b:dr ops t ((a++(p::l2++c.1))++c.2.2.2)=true:=b;show dr ops t ((a++(l2++c.1))++c.2.2.2)=true;rw[aRm]at b ⊢;exact(mg a _ b).2
theorem ag4 {ops:Array Oper} {t:List (Nat×List Nat)} {fin:List (Nat×Bool)}:∀(cs:sS) (l:List (Nat×Bool)),cbC ops t fin cs l->dr ops t l=true
 | [],l,q=>xG _ _ q
 | c::r,l,q=>xG _ _ q.pw
theorem adp {ops:Array Oper} {t:List (Nat×List Nat)} {fin:List (Nat×Bool)}:∀(cs:sS) (pre:List (Nat×Bool)),Vi ops t fin cs pre=true->cbC ops t fin cs pre
 | [],pre,q=>q
 | c::r,pre,q=>by
  have q:(ado ops t (pre++c.1) c.2.1 c.2.2.1 ((GM r fin).map (·.1)) (c.2.2.2.map (·.1))&&dr ops t ((pre++c.1)++c.2.2.2)&&Vi ops t fin r (pre++c.1))=true:=q;simp only[No]at q;obtain⟨⟨q1,b⟩,d⟩:=q;obtain⟨f,e,g,h,i,j,k⟩:=HR q1;have a:=adp r _ d;exact⟨ag4 r _ a,e,a,b⟩
theorem adq (f:fL P T) (ops:Array Oper) {t:List (Nat×List Nat)} (g:∀i x,qA (ia t i) x=true->NR ops.toList x i) (k:∀i,i<ops.size->∀d,d∈ez ops.toList i->d<ops.size/\d≠i)
  {K:Env->List ao->Prop} {Q:Exit->Act->World->Prop} (l:∀env h a w μ S,K env h->qb C μ h S env a w->Q .normal a w) (hd:∀o∈ops.toList,rL C.nt o=true) (fin:List (Nat×Bool)):
  ∀(cs:sS) (pre:List (Nat×Bool)),Vi ops t fin cs pre=true->(∀p,p∈GM cs fin->p.1<ops.size)->Snd P T C ops t Q (ag3 P T ops.toList t K fin cs) ((GM cs fin).map (·.1)) (cbC ops t fin cs)
 | [],pre,_,b=>Ts (C:=C) f ops g k l hd fin b
 | c::r,pre,q,b=>by
  have q:(ado ops t (pre++c.1) c.2.1 c.2.2.1 ((GM r fin).map (·.1)) (c.2.2.2.map (·.1))&&dr ops t ((pre++c.1)++c.2.2.2)&&Vi ops t fin r (pre++c.1))=true:=q;simp only[No]at q;obtain⟨⟨q1,I⟩,u⟩:=q;obtain⟨v,J,n,z,A,B,D⟩:=HR q1;have b:∀p,p∈c.1++(c.2.1,false)::GM r fin->p.1<ops.size:=b;have hx:c.2.1<ops.size:=b (c.2.1,false) aUG;have s:∀p,p∈GM r fin->p.1<ops.size:=λp hp=>b p (by simp [hp])
  have m:∀j,j∈c.2.1::(GM r fin).map (·.1)->j<ops.size:=λj hj=>by
   rcases aRo.1 hj with rfl | hj
   ·exact hx
   ·obtain⟨p,hp,rfl⟩:=aRT.1 hj;exact s p hp
  have E:=adq f ops g k l hd fin r (pre++c.1) u s;have F:=Ts (C:=C) f ops g k l hd c.2.2.2 (λp hp=>m p.1 ((n p.1).2 (aRG _ (aRT.2 ⟨p,hp,rfl⟩))))
  have G:=asp (C:=C) f ops g k hd (x:=c.2.1) (y:=c.2.2.1) (Fl r) (BT c.2.2.2) E F (Tu r) (λH p l2 q=>by
   rw[aRm]at q ⊢;exact(mg H _ q).2) v n hx z A B D
  have out:=ag2 G c.1 (λp hp=>b p (by simp [hp]))
  have e:(GM (c::r) fin).map (·.1)=c.1.map (·.1)++c.2.1::(GM r fin).map (·.1):=by
   show(c.1++(c.2.1,false)::GM r fin).map (·.1)=_;simp
  rw[e];exact out
theorem Vj (k:fL P T) (ops:Array Oper) {cs:sS} {fin:List (Nat×Bool)} (hc:Fm ops cs fin=true)
  {K:Env->List ao->Prop} {Q:Exit->Act->World->Prop} (l:∀env h a w μ S,K env h->qb C μ h S env a w->Q .normal a w) (hd:∀o∈ops.toList,rL C.nt o=true) {env:Env} {h:List ao} {a:Act} {w:World}
  (hf:fwC P T ops.toList (J8 ops.toList (GM cs fin) []) K fin cs [] env h) (hs:qb C μ h S env a w):wpAny P .any ops Q ops.size (Array.replicate ops.size false) a w:=by
 unfold Fm at hc;simp only[No]at hc;obtain⟨⟨⟨hlen,b⟩,f⟩,c⟩:=hc;rw[aRg]at b f;have hlen:=amb hlen;generalize m:J8 ops.toList (GM cs fin) []=t at*;have n:∀i x,qA (ia t i) x=true->NR ops.toList x i:=by rw[<-m];exact BS _ [] (λi x hx=>by simp [ia,qA]at hx)
 have q:∀p,p∈GM cs fin->p.1<ops.size:=λp hp=>by
  have:=f p hp;rw[No]at this;exact aRC this.1
 have g:∀j,j<ops.size->j∈(GM cs fin).map (·.1):=λj hj=>sR _ _ (b j (aTe.2 hj))
 have r:∀i,i<ops.size->∀d,d∈ez ops.toList i->d<ops.size/\d≠i:=λi hi d s=>by
  obtain⟨p,hp,rfl⟩:=aRT.1 (g i hi);have:=f p hp;rw[No,aRg]at this;have:=this.2 d s;rw[No]at this;exact⟨aRC this.1,λhe=>by rw[he,aSD]at this;cases this.2⟩
 have out:=adq (C:=C) k ops n r l hd fin cs [] c q
 have:=out [] [] (Array.replicate ops.size false) env h a w μ S (adp cs [] c) (λp hp=>by simp at hp)
  ⟨by simp,λj hj=>⟨λ_=>by simpa using g j hj,λ_=>by simp [Array.getD,hj]⟩,λj hj u=>absurd (g j hj) (by simpa using u)⟩
  (Tt cs [] env h hf) hs
 have e:([]:List (Nat×Bool)).length+((GM cs fin).map (·.1)).length=ops.size:=by simpa using hlen
 rw[e]at this;exact this
theorem ag5 {J:List (Nat×PV)->List ao->Prop} {env:Env} {h:List ao} {a:Act} {w:World} (hg:AB C.h.length J env h):∀{μ:Mu} {S:Nat->Prop},qb C μ h S env a w->∃σ η μ3 b,qb C μ3 η b (C2 qK σ) a w/\J σ η:=by
 induction hg with
 | mk σ η e hj=>
  intro μ S hs;obtain⟨μ3,b,f⟩:=HP hs e;exact⟨σ,η,μ3,b,f,hj⟩
 | ex h1 hx g c=>
  intro μ S hs;obtain⟨μ1,d⟩:=hs.ex hx;exact c d
 | ab id i j sub h1 k g c=>
  intro μ S hs;obtain⟨F,d⟩:=hs.ab k;exact c F d
theorem ag6 {m:Nat} {A B:XQ->Env->List ao->Prop} {Q:XQ} {env:Env} {h:List ao} {a:Act} {w:World} {S:Nat->Prop} (hv:xr m A B Q env h):∀{μ:Mu},qb C μ h S env a w->
  ∃μ' h',qb C μ' h' S env a w/\(A (XQ.then (B Q) Q) env h'\/∃J,A (XQ.then (AB m J) Q) env h'/\∀σ η,J σ η->B Q (C2 qK σ) η):=by
 induction hv with
 | direct hd=>exactλhs=>⟨_,_,hs,.inl hd⟩
 | cut J b e=>exactλhs=>⟨_,_,hs,.inr ⟨J,b,e⟩⟩
 | ex h1 hx f c=>
  intro μ hs;obtain⟨μ1,d⟩:=hs.ex hx;exact c d
 | ab id i j sub h1 b f c=>
  intro μ hs;obtain⟨F,d⟩:=hs.ab b;exact c F d
theorem ou (n:fL P T) (s:P.follows .mixedOrders=true):∀(c:Code) (Q:XQ) (env:Env) (h:List ao) (a:Act) (w:World) (μ:Mu) (S:Nat->Prop),
  vc P T C.h.length c Q env h->codeOk C.nt c=true->qb C μ h S env a w->c.wp P (Fb C Q) a w
 | .skip,Q,env,h,a,w,μ,S,hv,_,hs=>wp_skip ⟨μ,h,S,env,hs,hv⟩
 | .label _,Q,env,h,a,w,μ,S,hv,_,hs=>wp_label ⟨μ,h,S,env,hs,hv⟩
 | .exit _,Q,env,h,a,w,μ,S,hv,_,hs=>wp_exit ⟨μ,h,S,env,hs,hv⟩
 | .ret,Q,env,h,a,w,μ,S,hv,_,hs=>wp_ret ⟨μ,h,S,env,hs,hv⟩
 | .region id ops d,Q,env,h,a,w,μ,S,hv,g,hs=>by
  simp only[codeOk,No,aRg]at g;have hd:∀o∈ops.toList,rL C.nt o=true:=g.1;cases d with
  | false=>
   refine wp_region_list (zC n ops (Q:=Fb C Q) (λenv h a w μ S hq hs=>⟨μ,h,S,env,hs,hq⟩) ops.toList env h a w μ S hv hd hs)
  | true=>
   have quiet:zE P T ops.toList h (λenv'=>Q .normal env' h) ops.toList env->(Code.region id ops true).wp P (Fb C Q) a w:=λhv=>by
    refine wp_region_quiet (C:=dt w) s (by simpa using g.2) (dt.drew w) ?_;exact vh n ops h w μ S (λenv a hq hs w' E=>⟨μ,h,S,env,hs.agree E,hq⟩) ops.toList env a hv hd hs
   have hv:(match ops.toList.all (λo=>HT o.op)with
    | true=>zE P T ops.toList h (λenv'=>Q .normal env' h) ops.toList env
    | false=>Fo P T C.h.length ops (λenv' h'=>Q .normal env' h') env h):=hv
   split at hv
   ·exact quiet hv
   ·cases hv with
    | quiet hq=>exact quiet hq
    | uE cs fin hc hf=>
     refine wp_region_any s ?_;exact Vj (C:=C) n ops hc (K:=akW Q) (Q:=Fb C Q) (λenv h a w μ S hq hs=>⟨μ,h,S,env,hs,hq⟩) hd hf (hs.agree (dt.drew w))
    | float ord hc hf=>
     refine wp_region_any s ?_;unfold Tv at hc;simp only[No,aRg,aSb]at hc;obtain⟨⟨⟨hlen,G⟩,U⟩,D⟩:=hc;have hlen:=amb hlen;have W:∀p,p∈ord->p.1<ops.size:=λp hp=>aRC (U p hp).1
     have X:(ord.map (·.1)).Nodup:=by
      have:∀(l:List (Nat×Bool)),dr ops (J8 ops.toList ord []) l=true->(l.map (·.1)).Nodup:=λl=>by
       induction l with
       | nil=>simp
       | cons p r v=>
        intro hh;simp only[dr,No,aRg]at hh;simp only[aRD,List.nodup_cons];refine⟨λhm=>?_,v hh.2⟩;obtain⟨q,hq,he⟩:=aRT.1 hm;have:=hh.1 q hq;unfold jO at this;simp only[No,aSb]at this;have:=this.1.1;rw[he,aSD]at this;cases this
      exact this _ D
     have H:∀j,j<ops.size->j∈ord.map (·.1):=λj hj=>sR _ _ (G j (aTe.2 hj))
     exact Ka n ops (C:=C) (BS ord [] (λi x hx=>by simp [ia,qA]at hx)) (λi hi d Y=>by
      obtain⟨p,hp,rfl⟩:=aRT.1 (H i hi);have:=(U p hp).2 d Y;exact⟨aRC this.1,λhe=>by rw[he,aSD]at this;cases this.2⟩)
      (K:=λenv' h'=>Q .normal env' h') (Q:=Fb C Q) (λenv h a w μ S hq hs=>⟨μ,h,S,env,hs,hq⟩) hd ops.size ord [] _ env h a _ μ S hlen D W aUG (λj hj=>⟨λ_=>H j hj,λ_=>by simp [Array.getD,hj]⟩) (λj hj I=>absurd (H j hj) I) (ui _ _ _ _ hf) (hs.agree (dt.drew w))
 | .seq x y,Q,env,h,a,w,μ,S,hv,g,hs=>by
  simp only[codeOk,No]at g;have hv:xr C.h.length (vc P T C.h.length x) (vc P T C.h.length y) Q env h:=hv;obtain⟨μ,h,hs,hd | ⟨J,L,z⟩⟩:=ag6 hv hs
  ·refine wp_seq (Code.wp_mono (λe u w' f=>?_) (ou n s x _ env h a w μ S hd g.1 hs));cases e with
   | normal=>
    obtain⟨μ',h',S',env',B,hq⟩:=f;exact ou n s y Q env' h' u w' μ' S' hq g.2 B
   | exit id=>exact f
   | goto l=>exact f
   | ret=>exact f
   | panic M=>exact f
   | outgrown=>exact f
  ·refine wp_seq (Code.wp_mono (λe u w' f=>?_) (ou n s x _ env h a w μ S L g.1 hs));cases e with
   | normal=>
    obtain⟨μ',h',S',env',B,hg⟩:=f;obtain⟨σ,η,μ3,Z,zb,hj⟩:=ag5 hg B;exact ou n s y Q _ η u w' μ3 Z (z σ η hj) g.2 zb
   | exit id=>exact f
   | goto l=>exact f
   | ret=>exact f
   | panic M=>exact f
   | outgrown=>exact f
 | .cond c x y,Q,env,h,a,w,μ,S,hv,g,hs=>by
  simp only[codeOk,No]at g
  have hv:(match ev env c with
   | .bool t=>iq t (vc P T C.h.length x Q env h) (vc P T C.h.length y Q env h)
   | _=>False):=hv
  have hc:=dG hs.tmps c;split at hv
  ·rename_i b he;rw[he]at hc;obtain⟨h1,h2⟩:=lX hv;exact wp_cond_split hc.nZ (λz=>ou n s x Q env h a w μ S (h1 z) g.1 hs) (λz=>ou n s y Q env h a w μ S (h2 z) g.2 hs)
  ·exact hv.elim
 | .block id c,Q,env,h,a,w,μ,S,hv,g,hs=>by
  refine wp_block (Code.wp_mono (λe u w' f=>?_) (ou n s c _ env h a w μ S hv g hs));cases e with
  | exit m=>
   obtain⟨μ',h',S',env',B,hq⟩:=f;show if m=id then Fb C Q .normal u w' else Fb C Q (.exit m) u w'
   simp only[XQ.inBlock]at hq;by_cases hid:m=id
   ·rw[At hid];subst hid;rw[show Nat.beq m m=true by simp]at hq;exact⟨μ',h',S',env',B,hq⟩
   ·rw[As hid]
    have:Nat.beq m id=false:=by
     cases z:Nat.beq m id with
     | true=>exact(hid (amb z)).elim
     | false=>rfl
    rw[this]at hq;exact⟨μ',h',S',env',B,hq⟩
  | normal=>exact f
  | goto l=>exact f
  | ret=>exact f
  | panic M=>exact f
  | outgrown=>exact f
 | .loop c,Q,env,h,a,w,μ,S,hv,g,hs=>by
  intro b k cs;replace hv:sO C.h.length (λnext=>vc P T C.h.length c (XQ.then next Q)) env h:=hv
  have key:∀(a:Act) (w:World) (μ:Mu) (S:Nat->Prop),qb C μ h S env a w->∃e u w',Fb C Q e u w'/\Arrives P (lone (b.at a (.code c::.inLoop c::k)) cs w) b k cs e u w':=by
   clear hs;induction hv with
   | take σ η ht V v=>
    intro a w μ S hs;obtain⟨μ0,S0,O⟩:=HP hs ht;exact v a w μ0 S0 O
   | ex h1 hx V v=>
    intro a w μ S hs;obtain⟨μ1,R⟩:=hs.ex hx;exact v a w μ1 S R
   | ab id i j sub h1 L V v=>
    intro a w μ S hs;obtain⟨F,R⟩:=hs.ab L;exact v F a w μ S R
   | step N hN z v=>
    intro a w μ S hs;obtain⟨e,a₁,w₁,hq,A⟩:=ou n s c _ _ _ a w μ S z g hs b (.inLoop c::k) cs;cases e with
    | normal=>
     obtain⟨μ2,h2,S2,aa,mT,I⟩:=hq;obtain⟨e₂,a₂,w₂,hq₂,harr₂⟩:=v _ _ I a₁ w₁ μ2 S2 mT;exact⟨e₂,a₂,w₂,hq₂,.of_steps (Steps.trans A (.one step_inLoop)) harr₂⟩
    | exit id=>exact⟨_,a₁,w₁,hq,.pass (x:=.inLoop c) rfl (λ_ _=>.inl aUG) A⟩
    | goto l=>exact⟨_,a₁,w₁,hq,.pass (x:=.inLoop c) rfl (λ_ _=>.inl aUG) A⟩
    | ret=>exact⟨_,a₁,w₁,hq,.pass (x:=.inLoop c) rfl (λ_ _=>.inl aUG) A⟩
    | panic M=>exact⟨_,a₁,w₁,hq,.pass (x:=.inLoop c) rfl (λ_ _=>.inl aUG) A⟩
    | outgrown=>exact⟨_,a₁,w₁,hq,.pass (x:=.inLoop c) rfl (λ_ _=>.inl aUG) A⟩
  obtain⟨e,u,w',hq,A⟩:=key a w μ S hs;exact⟨e,u,w',hq,.of_steps (.one step_loop) A⟩
 | .rangeFunc _ _ _ _,Q,env,h,a,w,μ,S,hv,_,_=>hv.elim
 | .scope _,Q,env,h,a,w,μ,S,hv,_,_=>hv.elim
 | .goto _,Q,env,h,a,w,μ,S,hv,_,_=>hv.elim
 | .refuse _,Q,env,h,a,w,μ,S,hv,_,_=>hv.elim
theorem adr (m:fL P T) (o:dA μ h S w) (t:Nat) (d:PV) (v:Value) (hx:cE μ h S w d v) {K:PV->Prop} (hp:Av T t d h K):∃pv val,K pv/\cE μ h S w pv val/\(do loadVar t (<-asAddr v):Sem Value).run P w=.ok val w:=by
 obtain⟨pv,val,p,hv,c⟩:=EF (P:=P) (dst:=none) (ty:=0) (pos:= "") (after:=#[]) (guard:=none) (a:=⟨#[v],[]⟩) m o t (.tmp 0) d (by simpa[Act.eval]using hx) hp;refine⟨pv,val,p,hv,?_⟩;have:=c w (dt.refl w);have he:(execOp (Act.eval ⟨#[v],[]⟩) ⟨none,.load t (.tmp 0),0, "",#[],none⟩)=(do pure (Next.value (<-Instr.loadAt t v)):Sem Next):=rfl;rw[he]at this
 have j:∃k,v=.pointer (some k):=by
  unfold Av at hp;split at hp
  ·obtain⟨b,off,r,q,_⟩:=hx.Aq;exact⟨_,q⟩
  ·rename_i id gen i off;split at hp
   ·rename_i g sz n e f hg;obtain⟨rfl,_⟩:=hp;have c:=hx.xj;unfold c7 at c;rw[gG hg]at c;obtain⟨_,_,c⟩:=c;obtain⟨_,b,base,_,_,hv⟩:=c rfl;exact⟨_,hv⟩
   ·exact aUd
  ·exact aUd
 obtain⟨k,rfl⟩:=j;simp only[Instr.loadAt,Instr.sureAddr,asAddr,Sem.run_bind,Sem.run_pure,Result.andThen_ok]at this ⊢;cases l:(loadVar t k).run P w with
 | ok u w'=>
  rw[l]at this;simp only[Result.andThen]at this;injection this with h1 h2;injection h1 with h1;rw[h1,h2]
 | halt x w'=>rw[l]at this;cases this
theorem tq (c:fL P T) (hs:qb C μ h S env a w):∀(rs:List ResultVar) (K:List PV->Prop),xY T env h rs K->∃(vs:List PV) (us:List Value),K vs/\us.length=vs.length/\(∀(j:Nat) (pv:PV),vs[j]? =some pv->∃u,us[j]? =some u/\cE μ h S w pv u)/\
  (rs.mapM (fun | .tmp t=>pure (a.tmps.getD t undef) | .cell d t=>(do loadVar t (<-asAddr (a.tmps.getD d undef))):ResultVar->Sem Value)).run P w=.ok us w
 | [],K,hp=>⟨[],[],hp,rfl,λj pv hj=>by simp at hj,rfl⟩
 | .tmp t::r,K,hp=>by
  obtain⟨vs,us,b,h1,h2,e⟩:=tq c hs r _ hp;refine⟨env t::vs,a.tmps.getD t undef::us,b,by simp [h1],λj pv hj=>?_,?_⟩
  ·cases j with
   | zero=>simp at hj;subst hj;exact⟨_,rfl,hs.tmps t⟩
   | succ j=>simp at hj;obtain⟨u,q1,f⟩:=h2 j pv hj;exact⟨u,by simpa using q1,f⟩
  ·simp only[List.mapM_cons,Sem.run_bind,Sem.run_pure,Result.andThen_ok,e]
 | .cell d t::r,K,hp=>by
  obtain⟨pv,val,b,hv,g⟩:=adr c hs.core.heap t _ _ (hs.tmps d) hp;obtain⟨vs,us,b,h1,h2,e⟩:=tq c hs r _ b;refine⟨pv::vs,val::us,b,by simp [h1],λj i hj=>?_,?_⟩
  ·cases j with
   | zero=>simp at hj;subst hj;exact⟨_,rfl,hv⟩
   | succ j=>simp at hj;obtain⟨u,q1,f⟩:=h2 j i hj;exact⟨u,by simpa using q1,f⟩
  ·simp only[List.mapM_cons,Sem.run_bind,g,Result.andThen_ok,e,Sem.run_pure]
end
section
variable {P:Program}{T:ru}
def valOf:List Value->Value
 | [v]=>v
 | us=>.tuple us.toArray
theorem Nj {fn:Func} {tmps:Array Value} {us:List Value} {w:World}
  (hm:(fn.results.toList.mapM (fun | .tmp t=>pure (tmps.getD t undef) | .cell b t=>(do loadVar t (<-asAddr (tmps.getD b undef))):ResultVar->Sem Value)).run P w=.ok us w):
  (results fn tmps).run P w=.ok (valOf us) w:=by
 unfold results;rw[Array.mapM_eq_mapM_toList];simp only[map_eq_pure_bind,bind_assoc,pure_bind,Sem.run_bind]
 have key:∀X:Result (List Value),X=.ok us w->(X.andThen λa w'=>Sem.run P (pure (if h:a.toArray.size=1 then a.toArray[0]else Value.tuple a.toArray)) w')=.ok (valOf us) w:=by
  rintro _ rfl;simp only[Result.andThen_ok,Sem.run_pure];congr 1
  match us with
  | []=>rfl
  | [v]=>rfl
  | v::u::r=>simp [valOf]
 exact key _ hm
theorem ads {C:Start} {m:Nat} {R:PV->List ao->Prop} {env:Env} {h:List ao} {a:Act} {w:World} {S:Nat->Prop} {vs:List PV} {us:List Value} (e:Ends m R h vs):∀{μ:Mu},qb C μ h S env a w->
  (∀(j:Nat) (pv:PV),vs[j]? =some pv->∃u,us[j]? =some u/\cE μ h S w pv u)->∃μ' h',qb C μ' h' S env a w/\(∀(j:Nat) (pv:PV),vs[j]? =some pv->∃u,us[j]? =some u/\cE μ' h' S w pv u)/\
   vs.all oc=true/\∃(k:List Nat) (res:PV) (η:List ao),qs (pZ η k)=true/\m<=k.length/\Fz h' η k (oneOf vs) res/\mC h' η k m 0 η k/\R res η:=by
 induction e with
 | mk f k res η b hm g hh l=>exactλhs h2=>⟨_,_,hs,h2,f,k,res,η,b,hm,g,hh,l⟩
 | ex h1 hx b c=>
  intro μ hs h2;obtain⟨μ1,hf,hc⟩:=Tp hs.core hx;exact c (hs.turn hf hc) (λj pv hj=>let⟨u,q1,d⟩:=h2 j pv hj;⟨u,q1,d.fr hf hs.core.ok⟩)
 | ab id i j sub h1 n b c=>
  intro μ hs h2;obtain⟨hf,hc⟩:=Tr hs.core (n (FAb μ _ sub));exact c _ (hs.turn hf hc) (λj pv hj=>let⟨u,q1,d⟩:=h2 j pv hj;⟨u,q1,d.fr hf hs.core.ok⟩)
theorem ACall.aFo (y:fL P T) (F:P.follows .mixedOrders=true) {f:FuncId} {fn:Func} {c:Code} (hf:P.funcs[f]? =some fn) (z:fn.body=some c) (G:(fn.name== "runtime.NumGoroutine")=false)
  (args:List PV) (h:List ao) (R:PV->List ao->Prop) (o:Nat.ble args.length fn.ntmps=true) (H:codeOk fn.ntmps c=true)
  (hv:vc P T h.length c (aFn T fn.results.toList h.length R) (xx args) h):ACall P f args h R:=by
 refine⟨⟨fn,c,hf,z,G⟩,λw vs μ S I J Z K=>?_⟩;have o:=aRC o
 let C:Start:=⟨μ,h,S,w,fn.ntmps⟩
 have hs:qb C μ h S (xx args) ⟨vs++Array.replicate (fn.ntmps - vs.size) undef,[]⟩ w:=by
  refine⟨⟨I,J⟩,Fr.refl,λt=>?_,by simp;show _=fn.ntmps;omega,λt L=>?_,rfl⟩
  ·unfold xx;rw[aRb];cases M:args[t]? with
   | none=>trivial
   | some pv=>
    obtain⟨v,h1,h2⟩:=K t pv M;have N:t<vs.size:=(aRa.1 h1).1
    have:(vs++Array.replicate (fn.ntmps - vs.size) undef).getD t undef=v:=by
     rw[Array.getD_eq_getD_getElem?,aSi N,h1];rfl
    simp only[aTl];rw[this];exact cE.agZ h2
  ·unfold xx;rw[aRb,aRQ]
   ·rfl
   ·exact aSe o L
 refine calls_of_wp hf z ?_;refine Code.wp_mono (λe A w' O=>?_) (ou (C:=C) y F c _ _ h _ w μ S hv H hs);obtain⟨μ',h',S',env',m,hq⟩:=O
 have fin:xY T env' h' fn.results.toList (Ends h.length R h')->A.defers=[]/\∃v,(results fn A.tmps).run P w'=.ok v w'/\
   (∃(B:Value) (res:PV) (g:List ao) (μ'':Mu) (i:Nat->Prop),Ending.returned v=.returned B/\R res g/\cE μ'' g i w' res B/\dA μ'' g i w'/\uY μ'' g i w'/\Fr μ h S w μ'' g i w'):=λQ=>by
  obtain⟨d,us,U,h1,h2,V⟩:=tq y m _ _ Q;refine⟨m.defers,_,Nj V,?_⟩;obtain⟨μ',h',m,h2,p,k,res,η,D,hm,W,hh,X⟩:=ads U m h2
  have q:cE μ' h' S' w' (oneOf d) (valOf us):=by
   have key:(∀v,d≠[v])->cE μ' h' S' w' (oneOf d) (valOf us):=λn=>by
    have Y:oneOf d=.gJ d:=by
     match d,n with
     | [],_=>rfl
     | [v],n=>exact(n v rfl).elim
     | a::b::r,_=>rfl
    have e2:valOf us=.tuple us.toArray:=by
     match us,h1 with
     | [],_=>rfl
     | [v],h1=>
      match d,h1,n with
      | [x],_,n=>exact(n x rfl).elim
     | a::b::r,_=>rfl
    rw[Y,e2];refine⟨_,rfl,by simpa using h1,λj pv hj=>?_⟩;obtain⟨u,q1,s⟩:=h2 j pv hj;refine⟨u,by simpa using q1,?_⟩;have hp:oc pv=true:=(aRg.1 p) pv (aRq hj);cases pv with
    | gJ ps=>cases hp
    | _=>exact s
   match d,us,h1 with
   | [v],[u],_=>
    obtain⟨u',q1,s⟩:=h2 0 v rfl;simp at q1;subst q1;exact s
   | [],us,_=>exact key (λv hv=>by cases hv)
   | a::b::r,us,_=>exact key (λv hv=>by cases hv)
  obtain⟨E,_,_⟩:=AI m.core hh D;exact⟨_,res,η,nr μ' h' k,HM μ' h' k S',rfl,X,(xA m.core hh W).2.2 _ q,E.heap,E.ok,akS (C:=C) m.core m.fr hh D hm⟩
 cases e with
 | ret=>exact fin hq
 | normal=>exact fin hq
 | exit id=>exact hq.elim
 | goto l=>exact hq.elim
 | panic ch=>exact hq.elim
 | outgrown=>exact hq.elim
theorem ACall.mono {f:FuncId} {args:List PV} {h:List ao} {R a:PV->List ao->Prop} (hc:ACall P f args h R) (b:∀res h',R res h'->a res h'):ACall P f args h a:=
 ⟨hc.1,λw vs μ S c d g i=>(hc.2 w vs μ S c d g i).mono λe w' ⟨v,res,h',μ',S',he,j,rest⟩=>⟨v,res,h',μ',S',he,b _ _ j,rest⟩⟩
end
def pd (N:Nat):PV->PV
 | .own id gen off len=>.own (N+id) gen off len
 | .aI id gen i off=>.aI (N+id) gen i off
 | .rB id=>.rB (N+id)
 | .qz f dB=>.qz f (vk (N+·) dB)
 | v=>v
def Ri (N:Nat):PV->PV
 | .agg cs=>.agg (cs.map (pd N))
 | v=>pd N v
def tm (N:Nat):PV->PV
 | .gJ vs=>.gJ (vs.map (Ri N))
 | v=>Ri N v
def ir (N:Nat):ao->ao
 | .row g sz n e f=>.row g sz n e (λi=>(f i).map (pd N))
 | .dead=>.dead
def MR:PV->Bool
 | .agg cs=>cs.all cP
 | v=>cP v
def rJ:PV->Bool
 | .im _ _ _=>false
 | .ic _=>false
 | .fG _ _ _ _ _=>false
 | _=>true
def akX:PV->Bool
 | .agg cs=>cs.all rJ
 | v=>rJ v
def Tb:PV->Bool
 | .gJ vs=>vs.all akX
 | v=>akX v
def adt:ao->Prop
 | .row _ _ n _ f=>∀i,i<n->(f i).all rJ=true
 | .dead=>True
section
variable {P:Program}{T:ru}{μ μ0:Mu}{h h0:List ao}{S S0 S':Nat->Prop}{w w':World}
def lA (μ:Mu) (N:Nat) (μ0:Mu):Mu:=λid=>if id<N then μ id else μ0 (id - N)
theorem Cr {N:Nat} {a:PV} (h:rv a=true):pd N a=a:=by cases a<;>first | rfl | cases h
theorem qL (N:Nat) (a:h.length=N) (id:Nat):(h++h0.map (ir N))[N+id]? =(h0[id]?).map (ir N):=by
 subst a;rw[aRv aUE,aSv,aRs]
theorem vm (N id:Nat):lA μ N μ0 (N+id)=μ0 id:=by
 unfold lA;rw[As aUE,aSv]
theorem fy (G:PV->Prop) (a:∀pv v,G pv->bh S0 w' pv v->bh S' w' pv v) {pv:PV} {v:Value} (hg:G pv) (hc:db μ0 h0 S0 w' pv v):
  db (lA μ h.length μ0) (h++h0.map (ir h.length)) S' w' (pd h.length pv) v:=by
 have c:∀(id gen i off:Nat) (v:Value),c7 μ0 h0 w' id gen i off v->c7 (lA μ h.length μ0) (h++h0.map (ir h.length)) w' (h.length+id) gen i off v:=λid gen i off v hc=>by
  unfold c7 at hc ⊢;rw[qL _ rfl,vm];obtain⟨h1,h2⟩:=hc;refine⟨h1,?_⟩;cases ho:h0[id]? with
  | none=>rw[ho]at h2;exact h2
  | some o=>
   rw[ho]at h2;cases o with
   | dead=>trivial
   | row g sz n e f=>exact h2
 cases pv with
 | own id gen off len=>
  have hc:bX μ0 h0 w' id gen off len v:=hc;show bX _ _ _ (h.length+id) gen off len v;unfold bX at hc ⊢;rw[qL _ rfl,vm];obtain⟨h1,h2⟩:=hc;refine⟨h1,?_⟩;cases ho:h0[id]? with
  | none=>rw[ho]at h2;exact h2
  | some o=>
   rw[ho]at h2;cases o with
   | dead=>trivial
   | row g sz n e f=>exact h2
 | aI id gen i off=>exact c _ _ _ _ _ hc
 | qz f dB=>exact wi.map (O:=λid g u=>c7 (lA μ h.length μ0) (h++h0.map (ir h.length)) w' id g 0 0 u) (wi.mono (show rF μ0 h0 w' f dB v from hc) (λid g u hu=>c id g 0 0 u hu))
 | rB id=>
  have hc:je μ0 h0 w' id v:=hc;show je _ _ _ (h.length+id) v;unfold je at hc ⊢;rw[qL _ rfl,vm];obtain⟨h1,h2⟩:=hc;refine⟨h1,?_⟩;cases ho:h0[id]? with
  | none=>rw[ho]at h2;exact h2
  | some o=>
   rw[ho]at h2;cases o with
   | dead=>trivial
   | row g sz n e f=>exact h2
 | kB=>exact hc
 | fG sz n e f F=>exact hc
 | agg cs=>exact(show False from hc).elim
 | gJ cs=>exact(show False from hc).elim
 | int k n=>exact a _ _ hg hc
 | bool b=>exact a _ _ hg hc
 | str s=>exact a _ _ hg hc
 | bR=>exact a _ _ hg hc
 | jk=>exact a _ _ hg hc
 | im sz n f=>exact a _ _ hg hc
 | ic cs=>exact a _ _ hg hc
 | fn f=>exact a _ _ hg hc
theorem fA (G:PV->Prop) (a:∀pv v,G pv->bh S0 w' pv v->bh S' w' pv v) {pv:PV} {v:Value} (hg:match pv with | .agg cs=>∀c∈cs,G c | v=>G v) (hc:lE μ0 h0 S0 w' pv v):
  lE (lA μ h.length μ0) (h++h0.map (ir h.length)) S' w' (Ri h.length pv) v:=by
 cases pv with
 | agg cs=>
  obtain⟨vs,h1,h2,d⟩:=hc;refine⟨vs,h1,by simpa using h2,λj pv hj=>?_⟩;rw[aRs]at hj;cases hx:cs[j]? with
  | none=>rw[hx]at hj;cases hj
  | some c=>
   rw[hx]at hj;injection hj with hj;subst hj;obtain⟨u,q1,g⟩:=d j c hx;exact⟨u,q1,fy G a (hg c (aRq hx)) g⟩
 | kB=>trivial
 | fG sz n e f F=>exact fy (μ:=μ) (μ0:=μ0) (h:=h) (h0:=h0) (pv:=.fG sz n e f F) G a hg hc
 | gJ cs=>exact(show False from hc).elim
 | own id gen off len=>exact fy (μ:=μ) (μ0:=μ0) (h:=h) (h0:=h0) (pv:=.own id gen off len) G a hg hc
 | aI id gen i off=>exact fy (μ:=μ) (μ0:=μ0) (h:=h) (h0:=h0) (pv:=.aI id gen i off) G a hg hc
 | rB id=>exact fy (μ:=μ) (μ0:=μ0) (h:=h) (h0:=h0) (pv:=.rB id) G a hg hc
 | qz f dB=>exact fy (μ:=μ) (μ0:=μ0) (h:=h) (h0:=h0) (pv:=.qz f dB) G a hg hc
 | int k n=>exact fy (μ:=μ) (μ0:=μ0) (h:=h) (h0:=h0) (pv:=.int k n) G a hg hc
 | bool b=>exact fy (μ:=μ) (μ0:=μ0) (h:=h) (h0:=h0) (pv:=.bool b) G a hg hc
 | str s=>exact fy (μ:=μ) (μ0:=μ0) (h:=h) (h0:=h0) (pv:=.str s) G a hg hc
 | bR=>exact fy (μ:=μ) (μ0:=μ0) (h:=h) (h0:=h0) (pv:=.bR) G a hg hc
 | jk=>exact fy (μ:=μ) (μ0:=μ0) (h:=h) (h0:=h0) (pv:=.jk) G a hg hc
 | im sz n f=>exact fy (μ:=μ) (μ0:=μ0) (h:=h) (h0:=h0) (pv:=.im sz n f) G a hg hc
 | ic cs=>exact fy (μ:=μ) (μ0:=μ0) (h:=h) (h0:=h0) (pv:=.ic cs) G a hg hc
 | fn f=>exact fy (μ:=μ) (μ0:=μ0) (h:=h) (h0:=h0) (pv:=.fn f) G a hg hc
def ag7 (G:PV->Prop):PV->Prop
 | .gJ vs=>∀v∈vs,(match v with | .agg cs=>∀c∈cs,G c | v=>G v)
 | .agg cs=>∀c∈cs,G c
 | v=>G v
theorem Fp (G:PV->Prop) (a:∀pv v,G pv->bh S0 w' pv v->bh S' w' pv v) {pv:PV} {v:Value} (hg:ag7 G pv) (hc:cE μ0 h0 S0 w' pv v):
  cE (lA μ h.length μ0) (h++h0.map (ir h.length)) S' w' (tm h.length pv) v:=by
 cases pv with
 | gJ cs=>
  obtain⟨vs,h1,h2,d⟩:=hc;refine⟨vs,h1,by simpa using h2,λj pv hj=>?_⟩;rw[aRs]at hj;cases hx:cs[j]? with
  | none=>rw[hx]at hj;cases hj
  | some c=>
   rw[hx]at hj;injection hj with hj;subst hj;obtain⟨u,q1,g⟩:=d j c hx;exact⟨u,q1,fA G a (hg c (aRq hx)) g⟩
 | agg cs=>exact fA (μ:=μ) (μ0:=μ0) (h:=h) (h0:=h0) (pv:=.agg cs) G a hg hc
 | kB=>trivial
 | fG sz n e f F=>exact fA (μ:=μ) (μ0:=μ0) (h:=h) (h0:=h0) (pv:=.fG sz n e f F) G a hg hc
 | own id gen off len=>exact fA (μ:=μ) (μ0:=μ0) (h:=h) (h0:=h0) (pv:=.own id gen off len) G a hg hc
 | aI id gen i off=>exact fA (μ:=μ) (μ0:=μ0) (h:=h) (h0:=h0) (pv:=.aI id gen i off) G a hg hc
 | rB id=>exact fA (μ:=μ) (μ0:=μ0) (h:=h) (h0:=h0) (pv:=.rB id) G a hg hc
 | qz f dB=>exact fA (μ:=μ) (μ0:=μ0) (h:=h) (h0:=h0) (pv:=.qz f dB) G a hg hc
 | int k n=>exact fA (μ:=μ) (μ0:=μ0) (h:=h) (h0:=h0) (pv:=.int k n) G a hg hc
 | bool b=>exact fA (μ:=μ) (μ0:=μ0) (h:=h) (h0:=h0) (pv:=.bool b) G a hg hc
 | str s=>exact fA (μ:=μ) (μ0:=μ0) (h:=h) (h0:=h0) (pv:=.str s) G a hg hc
 | bR=>exact fA (μ:=μ) (μ0:=μ0) (h:=h) (h0:=h0) (pv:=.bR) G a hg hc
 | jk=>exact fA (μ:=μ) (μ0:=μ0) (h:=h) (h0:=h0) (pv:=.jk) G a hg hc
 | im sz n f=>exact fA (μ:=μ) (μ0:=μ0) (h:=h) (h0:=h0) (pv:=.im sz n f) G a hg hc
 | ic cs=>exact fA (μ:=μ) (μ0:=μ0) (h:=h) (h0:=h0) (pv:=.ic cs) G a hg hc
 | fn f=>exact fA (μ:=μ) (μ0:=μ0) (h:=h) (h0:=h0) (pv:=.fn f) G a hg hc
theorem HU (hH:dA μ h S w) (l:uY μ h S w) {μc:Mu} {Sc:Nat->Prop} (s:Fr μc [] Sc w μ0 h0 S0 w') (N:dA μ0 h0 S0 w') (L:uY μ0 h0 S0 w')
  (G:PV->Prop) (hG:∀pv v,G pv->bh S0 w' pv v->bh S' w' pv v) (O:∀(id g sz n:Nat) (e:TypeId) (f:Nat->List PV),h0[id]? =some (ao.row g sz n e f)->∀i,i<n->∀c∈f i,(eH c=false->G c)/\(eH c=true->OG G c))
  (P:∀b,S b->S' b) (H:∀b,S' b->S b\/w.heap.size<=b) (Q:∀b,S' b->b<w'.heap.size) (R:∀b,S' b->¬dL μ0 h0 b):
  dA (lA μ h.length μ0) (h++h0.map (ir h.length)) S' w'/\uY (lA μ h.length μ0) (h++h0.map (ir h.length)) S' w'/\Fr μ h S w (lA μ h.length μ0) (h++h0.map (ir h.length)) S' w':=by
 have Bp:∀b,¬dL μc [] b:=λb=>mv;have D:∀b,b<w.heap.size->w'.heap[b]? =w.heap[b]?:=λb a=>s.blocks b a (Bp b);have t:∀b,dL μ0 h0 b->w.heap.size<=b:=λb a=>(s.own b a).resolve_left (Bp b)
 have M:∀id o,h[id]? =some o->(h++h0.map (ir h.length))[id]? =some o/\lA μ h.length μ0 id=μ id:=λid o hid=>by
  have u:=(abF.1 hid).1;exact⟨by rw[aRJ u];exact hid,by unfold lA;rw[At u]⟩
 have inv:∀(id g sz n:Nat) (e:TypeId) (f:Nat->List PV),(h++h0.map (ir h.length))[id]? =some (ao.row g sz n e f)->
   (h[id]? =some (ao.row g sz n e f)/\lA μ h.length μ0 id=μ id)\/∃d f0,id=h.length+d/\h0[d]? =some (ao.row g sz n e f0)/\lA μ h.length μ0 id=μ0 d/\f=λi=>(f0 i).map (pd h.length):=λid g sz n e f hid=>by
  rcases aSf id h.length with u | Kv
  ·rw[aRJ u]at hid;exact .inl ⟨hid,by unfold lA;rw[At u]⟩
  ·obtain⟨d,rfl⟩:∃d,id=h.length+d:=⟨id - h.length,by omega⟩;rw[qL _ rfl]at hid;cases ho:h0[d]? with
   | none=>rw[ho]at hid;cases hid
   | some o=>
    rw[ho]at hid;cases o with
    | dead=>cases hid
    | row g0 aa n0 e0 f0=>
     injection hid with hid;injection hid with T e2 U e4 e5;subst T e2 U e4 e5;exact .inr ⟨d,f0,rfl,ho,vm _ _,rfl⟩
 have CY:∀b,Hx (lA μ h.length μ0) (h++h0.map (ir h.length)) b->Hx μ h b\/Hx μ0 h0 b:=λb ⟨id,g,sz,n,e,f,base,hid,hm⟩=>by
  rcases inv id g sz n e f hid with⟨h1,h2⟩ | ⟨d,f0,rfl,h1,h2,_⟩
  ·rw[h2]at hm;exact .inl ⟨id,g,sz,n,e,f,base,h1,hm⟩
  ·rw[h2]at hm;exact .inr ⟨d,g,sz,n,e,f0,base,h1,hm⟩
 have V:∀{c:PV} {sz n:Nat} {e:TypeId} {f:Nat->List PV} {F:Nat->Prop},pd h.length c=.fG sz n e f F->c=.fG sz n e f F:=λ{c} _ _ _ _ _ hc=>by
  cases c<;>first | exact hc | cases hc
 have E:∀id i j b,eR (h++h0.map (ir h.length)) id i j b->eR h id i j b\/∃d,id=h.length+d/\eR h0 d i j b:=λid i j b ⟨g,sz,n,e,f,cV,n',e',f',F',q1,m,r,q4⟩=>by
  rcases inv id g sz n e f q1 with⟨h1,h2⟩ | ⟨d,f0,rfl,h1,h2,rfl⟩
  ·exact .inl ⟨_,_,_,_,_,_,_,_,_,_,h1,m,r,q4⟩
  ·rw[aRs]at r;cases hx:(f0 i)[j]? with
   | none=>rw[hx]at r;cases r
   | some c=>
    rw[hx]at r;injection r with r;rw[V r]at hx;exact .inr ⟨d,rfl,_,_,_,_,_,_,_,_,_,_,h1,m,hx,q4⟩
 have W:∀b,dL (lA μ h.length μ0) (h++h0.map (ir h.length)) b->dL μ h b\/dL μ0 h0 b:=λb a=>by
  rcases a with a | ⟨x,y,z,a⟩
  ·exact(CY b a).imp .inl .inl
  ·rcases E x y z b a with q | ⟨_,_,q⟩
   ·exact .inl (.inr ⟨_,_,_,q⟩)
   ·exact .inr (.inr ⟨_,_,_,q⟩)
 have X:Fr μ h S w (lA μ h.length μ0) (h++h0.map (ir h.length)) S' w':=by
  refine⟨by simp,λb a _=>D b a,P,λb a=>(H b a).imp id .inr,λb a=>(W b a).imp id (t b),s.size,s.os,s.tape,s.output,λid g sz n e f hid=>?_,λid hid=>(M id _ hid).1,λb k a hc=>lZ.of_same (D b hc.lt) hc,λid g sz n e f b base hid hm Y=>⟨let⟨es,c,q⟩:=Y;⟨es,c,(D b (aRa.1 q).1).trans q⟩,.inr ⟨⟨_,_,_,_,_,(M id _ hid).1⟩,(M id _ hid).2.trans hm⟩⟩,λb _ _ _ hx Y=>let⟨es,c,q⟩:=Y;⟨es,c,(D b (aRa.1 q).1).trans q⟩⟩;obtain⟨h1,h2⟩:=M id _ hid;rw[h1];exact⟨Of _,λ_=>⟨h2,rfl,rfl,rfl⟩⟩
 refine⟨λid g sz n e f hid=>?_,⟨λb a hs=>?_,λb a=>?_,Q,?_,l.EN X,λb a x y z hx=>?_,λb x y z x' y' z' hx wh=>?_⟩,X⟩;rotate_right 2
 ·rcases CY b a with h1 | h1
  ·rcases E x y z b hx with h2 | ⟨_,_,h2⟩
   ·exact l.hv b h1 _ _ _ h2
   ·have I:=l.lt b (.inl h1);have J:=t b (.inr ⟨_,_,_,h2⟩);omega
  ·rcases E x y z b hx with h2 | ⟨_,_,h2⟩
   ·have I:=l.lt b (.inr ⟨_,_,_,h2⟩);have J:=t b (.inl h1);omega
   ·exact L.hv b h1 _ _ _ h2
 ·rcases E x y z b hx with h1 | ⟨u1,rfl,h1⟩
  ·rcases E x' y' z' b wh with h2 | ⟨u2,rfl,h2⟩
   ·exact l.hh b _ _ _ _ _ _ h1 h2
   ·have I:=l.lt b (.inr ⟨_,_,_,h1⟩);have J:=t b (.inr ⟨_,_,_,h2⟩);omega
  ·rcases E x' y' z' b wh with h2 | ⟨u2,rfl,h2⟩
   ·have I:=l.lt b (.inr ⟨_,_,_,h2⟩);have J:=t b (.inr ⟨_,_,_,h1⟩);omega
   ·obtain⟨T,e2,U⟩:=L.hh b _ _ _ _ _ _ h1 h2;exact⟨by rw[T],e2,U⟩
 ·rcases inv id g sz n e f hid with⟨h1,h2⟩ | ⟨d,f0,rfl,h1,h2,rfl⟩
  ·obtain⟨q1,m⟩:=hH id g sz n e f h1;refine⟨q1,?_⟩;rw[h2];cases hm:μ id with
   | none=>rw[hm]at m;exact m
   | some p=>
    obtain⟨b,base⟩:=p;rw[hm]at m;obtain⟨o,r1,K⟩:=m;have u:b<w.heap.size:=(aRa.1 r1).1;exact⟨o,(D b u).trans r1,K.mono (λi y pv v hi hy hr=>hr.fr X l (λcV n' e' f' F' he b2 xM=>D b2 (l.lt b2 (.inr ⟨id,i,y,_,_,_,_,_,_,_,_,_,_,h1,hi,he▸hy,xM⟩))))⟩
  ·obtain⟨q1,m⟩:=N d g sz n e f0 h1;refine⟨λi hi=>by simpa using q1 i hi,?_⟩;rw[h2];cases hm:μ0 d with
   | none=>rw[hm]at m;exact m
   | some p=>
    obtain⟨b,base⟩:=p;rw[hm]at m;obtain⟨o,r1,K⟩:=m;refine⟨o,r1,?_⟩;cases o with
    | cells cur e' z=>
     obtain⟨Z,x2,x3,r3⟩:=K;refine⟨Z,x2,x3,λi j pv hi hj=>?_⟩;rw[aRs]at hj;cases hx:(f0 i)[j]? with
     | none=>rw[hx]at hj;cases hj
     | some c=>
      rw[hx]at hj;injection hj with hj;subst hj;obtain⟨v,s1,s2⟩:=r3 i j c hi hx;obtain⟨g1,g2⟩:=O d g sz n e f0 h1 i hi c (aRq hx);refine⟨v,s1,?_⟩;cases ho:eH c with
      | false=>exact db.k (fy G hG (g1 ho) s2.c) (by cases c<;>first | rfl | cases ho)
      | true=>
       cases c with
       | fG oh n2 e2 f2 F2=>exact nh.og hG (show nh S0 w' (.fG oh n2 e2 f2 F2) v from s2) (g2 rfl)
       | _=>cases ho
    | map es c=>
     obtain⟨Z,r3⟩:=K;refine⟨Z,λi hi=>?_⟩;obtain⟨kp,vp,en,y1,y2,y3,y4⟩:=r3 i hi;exact⟨kp,vp,en,by show(f0 i).map (pd h.length)=_;rw[y1];show[pd h.length kp,pd h.length vp]=_;rw[Cr y2,Cr y3],y2,y3,y4⟩
    | _=>exact K.elim
 ·rcases W b a with h1 | h1
  ·rcases H b hs with h2 | h2
   ·exact l.apart b h1 h2
   ·have:=l.lt b h1;omega
  ·exact R b hs h1
 ·rcases W b a with h1 | h1
  ·exact aRx (l.lt b h1) s.size
  ·exact L.lt b h1
 ·intro i j gi VA ni ei fi gj ny nj ej fj b o o' hi hj oF oa;rcases inv i _ _ _ _ _ hi with⟨h1,h2⟩ | ⟨d,f0,rfl,h1,h2,_⟩
  ·rw[h2]at oF;rcases inv j _ _ _ _ _ hj with⟨A,B⟩ | ⟨C,f1,rfl,A,B,_⟩
   ·rw[B]at oa;exact l.inj i j _ _ _ _ _ _ _ _ _ _ _ _ _ h1 A oF oa
   ·rw[B]at oa;have I:=l.lt b (.inl ⟨i,_,_,_,_,_,_,h1,oF⟩);have J:=t b (.inl ⟨C,_,_,_,_,_,_,A,oa⟩);omega
  ·rw[h2]at oF;rcases inv j _ _ _ _ _ hj with⟨A,B⟩ | ⟨C,f1,rfl,A,B,_⟩
   ·rw[B]at oa;have I:=l.lt b (.inl ⟨j,_,_,_,_,_,_,A,oa⟩);have J:=t b (.inl ⟨d,_,_,_,_,_,_,h1,oF⟩);omega
   ·rw[B]at oa;have:=L.inj d C _ _ _ _ _ _ _ _ _ _ _ _ _ h1 A oF oa;rw[this]
theorem ACall.frame {f:FuncId} {args:List PV} {R:PV->List ao->Prop} (E:ACall P f args [] R) (h:List ao) (hp:args.all MR=true):
  ACall P f args h (λres h'=>∃r0 h0,R r0 h0/\res=tm h.length r0/\h'=h++h0.map (ir h.length)):=by
 refine⟨E.1,λw vs μ S H A I J=>?_⟩;refine(E.2 w vs (λ_=>none) S (λid g sz n e f hid=>by simp at hid) ⟨λb d=>absurd d mv,λb d=>absurd d mv,A.slt,λi j g sz n e f g' cV n' e' f' b o o' hi=>by simp at hi,A.known,λb _ x y z hx=>AL hx,λb _ _ _ _ _ _ hx=>absurd hx AL⟩ I (λj pv hj=>?_)).mono ?_
 ·obtain⟨v,h1,h2⟩:=J j pv hj;refine⟨v,h1,?_⟩;have a:=(aRg.1 hp) pv (aRq hj);cases pv with
  | agg cs=>
   obtain⟨us,q1,m,K⟩:=h2;refine⟨us,q1,m,λi c hi=>?_⟩;obtain⟨u,r1,r⟩:=K i c hi;have hc:=(aRg.1 a) c (aRq hi);exact⟨u,r1,db.mu (BQ hc r)⟩
  | gJ cs=>cases a
  | own id gen off len=>cases a
  | aI id gen i off=>cases a
  | rB id=>cases a
  | qz f dB=>cases a
  | kB=>cases a
  | fG sz n e f F=>cases a
  | int k n=>exact h2
  | bool b=>exact h2
  | str s=>exact h2
  | bR=>exact h2
  | jk=>exact h2
  | im sz n f=>exact h2
  | ic cs=>exact h2
  | fn f=>exact h2
 ·rintro e w' ⟨v,r0,h0,μ0,S0,he,L,hv,t,B,C⟩;have M:∀b,¬dL (λ_=>none) [] b:=λb=>mv
  obtain⟨N,O,Q⟩:=HU (S':=S0) H A C t B (λ_=>True) (λ_ _ _ h=>h) (λid g sz n e f hid i hi c l=>⟨λ_=>trivial,λhx=>by
    obtain⟨j,hj,D⟩:=aSG.1 l;obtain⟨_,m⟩:=t id g sz n e f hid;cases G:μ0 id with
    | none=>rw[G]at m;omega
    | some p=>
     obtain⟨b,base⟩:=p;rw[G]at m;obtain⟨o,_,r⟩:=m;cases o with
     | cells cur e' z=>
      obtain⟨_,_,_,T⟩:=r;obtain⟨v,_,s2⟩:=T i j c hi (by rw[<-D];exact abL hj);cases c with
      | fG oh n2 e2 f2 U=>exact nh.all (show nh S0 w' (.fG oh n2 e2 f2 U) v from s2)
      | _=>cases hx
     | map es cl=>
      obtain⟨V,W,en,y1,X,Y,_⟩:=r.2 i hi;rw[y1]at l;rcases aRo.1 l with q | q
      ·rw[q]at hx;cases V<;>first | (cases hx;done) | (cases X;done)
      ·rw[aSR.1 q]at hx;cases W<;>first | (cases hx;done) | (cases Y;done)
     | _=>exact r.elim⟩) C.sub
   (λb d=>(C.new b d).imp id (λh=>h.resolve_left (M b))) B.slt (λb d ho=>B.apart b ho d)
  have Z:ag7 (λ_=>True) r0:=by
   unfold ag7;split
   ·intro v _;split<;>intros<;>trivial
   ·intros;trivial
   ·trivial
  exact⟨v,_,_,_,S0,he,⟨r0,h0,L,rfl,rfl⟩,Fp _ (λ_ _ _ h=>h) Z hv,N,O,Q⟩
def akY:ao->Prop
 | .row _ _ n _ f=>∀i,i<n->∀c∈f i,(eH c=false->rJ c=true)/\(eH c=true->OG (λpv=>rJ pv=true) c)
 | .dead=>True
theorem adt.p {o:ao} (h:adt o):akY o:=by
 cases o with
 | dead=>trivial
 | row g sz n e f=>
  intro i hi c hc;have:=(aRg.1 (h i hi)) c hc;exact⟨λ_=>this,λhx=>by cases c<;>first | (cases hx;done) | (cases this;done)⟩
theorem ACall.snap {f:FuncId} {args r:List PV} {R:PV->List ao->Prop} (z:ACall P f r [] R) (h:List ao) (E:r.length=args.length)
  (F:∀(j:Nat) (pv l:PV),args[j]? =some pv->r[j]? =some l->Fz h [] [] pv l/\oc l=true) (G:∀r0 h0,R r0 h0->Tb r0=true/\∀o∈h0,akY o):
  ACall P f args h (λres h'=>∃r0 h0,R r0 h0/\res=tm h.length r0/\h'=h++h0.map (ir h.length)):=by
 refine⟨z.1,λw vs μ S t p T H=>?_⟩;have q:mC h [] [] 0 0 [] []:=trivial;obtain⟨A,_,_⟩:=AI (m:=0) ⟨t,p⟩ q rfl;refine(z.2 w vs (nr μ h []) (HM μ h [] S) A.heap A.ok aUE (λj l hj=>?_)).mono ?_
 ·have I:j<args.length:=by rw[<-E];exact(abF.1 hj).1
  have B:=abL I;obtain⟨v,h1,h2⟩:=H j _ B;obtain⟨J,U⟩:=F j _ l B hj;exact⟨v,h1,(xA (m:=0) ⟨t,p⟩ q J).2.1 v h2⟩
 ·rintro e w' ⟨v,r0,h0,μ0,S0,he,C,hv,u,K,x⟩;obtain⟨a,y⟩:=G r0 h0 C;have L:∀b,¬dL (nr μ h []) [] b:=λb=>mv
  have D:∀pv v,rJ pv=true->bh S0 w' pv v->bh S w' pv v:=λpv v hf hp=>by
   cases hp with
   | int k n=>exact .int k n
   | bool b=>exact .bool b
   | str s=>exact .str s
   | bR=>exact .bR
   | jk=>exact .jk
   | fn f=>exact .fn f
   | rZ=>cases hf
   | im=>cases hf
   | ic=>cases hf
  obtain⟨M,N,O⟩:=HU (S':=S) t p x u K (λpv=>rJ pv=true) D (λid g sz n e f hid i hi c hc=>y _ (aRq hid) i hi c hc) (λ_ d=>d) (λb d=>.inl d) (λb d=>aRx (p.slt b d) x.size)
   (λb d ho=>by
    have h1:=(x.own b ho).resolve_left (L b);have h2:=p.slt b d;omega)
  have Q:ag7 (λpv=>rJ pv=true) r0:=by
   cases r0 with
   | gJ vs=>
    intro v hv;have:=(aRg.1 a) v hv;cases v with
    | agg cs=>exactλc hc=>(aRg.1 this) c hc
    | _=>exact this
   | agg cs=>exactλc hc=>(aRg.1 a) c hc
   | _=>exact a
  exact⟨v,_,_,_,S,he,⟨r0,h0,C,rfl,rfl⟩,Fp _ D Q hv,M,N,O⟩
end
def mR (σ:Nat->Nat):PV->PV
 | .own id gen off len=>.own (σ id) gen off len
 | .aI id gen i off=>.aI (σ id) gen i off
 | .rB id=>.rB (σ id)
 | .qz f dB=>.qz f (vk σ dB)
 | v=>v
def xt (σ:Nat->Nat):PV->PV
 | .agg cs=>.agg (cs.map (mR σ))
 | v=>mR σ v
def BM (σ:Nat->Nat):PV->PV
 | .gJ vs=>.gJ (vs.map (xt σ))
 | v=>xt σ v
def wj (σ:Nat->Nat):ao->ao
 | .row g sz n e f=>.row g sz n e (λi=>(f i).map (mR σ))
 | .dead=>.dead
theorem HV {σ:Nat->Nat} {a:PV} (h:rv (mR σ a)=true):mR σ a=a:=by cases a<;>first | rfl | cases h
theorem HW {σ:Nat->Nat} {a:PV} (h:rv a=true):mR σ a=a:=by cases a<;>first | rfl | cases h
section
variable {P:Program}{T:ru}{μ μ0 μ1:Mu}{h h0 h1 hc:List ao}{S S0 S1:Nat->Prop}{w w':World}{σ:Nat->Nat}
theorem adu {pv:PV} {v:Value} (m:∀j,(∃g sz n e f,h0[j]? =some (ao.row g sz n e f)/\(∃l,h1[σ j]? =some (ao.row g sz n e l))/\μ1 (σ j)=μ0 j)\/(h0[j]? =some ao.dead/\h1[σ j]? =some ao.dead)\/h0[j]? =none)
  (d:∀b,S0 b->S1 b) (hc:db μ0 h0 S0 w pv v):db μ1 h1 S1 w (mR σ pv) v:=by
 have o:∀(id gen i off:Nat) (v:Value),c7 μ0 h0 w id gen i off v->c7 μ1 h1 w (σ id) gen i off v:=λid gen i off v hc=>by
  unfold c7 at hc ⊢;obtain⟨q1,a⟩:=hc;refine⟨q1,?_⟩;rcases m id with⟨g,sz,n,e,f,r1,⟨l,c⟩,h⟩ | ⟨r1,c⟩ | r1
  ·rw[r1]at a;rw[c];show gen<=g/\_;rw[h];exact a
  ·rw[c];trivial
  ·rw[r1]at a;exact a.elim
 cases pv with
 | own id gen off len=>
  have hc:bX μ0 h0 w id gen off len v:=hc;show bX μ1 h1 w (σ id) gen off len v;unfold bX at hc ⊢;obtain⟨q1,a⟩:=hc;refine⟨q1,?_⟩;rcases m id with⟨g,sz,n,e,f,r1,⟨l,c⟩,h⟩ | ⟨r1,c⟩ | r1
  ·rw[r1]at a;rw[c];show gen<=g/\_;rw[h];exact a
  ·rw[c];trivial
  ·rw[r1]at a;exact a.elim
 | aI id gen i off=>exact o _ _ _ _ _ hc
 | qz f dB=>exact wi.map (O:=λid g u=>c7 μ1 h1 w id g 0 0 u) (wi.mono (show rF μ0 h0 w f dB v from hc) (λid g u hu=>o id g 0 0 u hu))
 | rB id=>
  have hc:je μ0 h0 w id v:=hc;show je μ1 h1 w (σ id) v;unfold je at hc ⊢;obtain⟨q1,a⟩:=hc;refine⟨q1,?_⟩;rcases m id with⟨g,sz,n,e,f,r1,⟨l,c⟩,h⟩ | ⟨r1,c⟩ | r1
  ·rw[r1]at a;rw[c];obtain⟨b,base,p,q⟩:=a;exact⟨b,base,h.trans p,q⟩
  ·rw[c];trivial
  ·rw[r1]at a;exact a.elim
 | kB=>exact hc
 | fG sz n e f F=>exact hc
 | agg cs=>exact(show False from hc).elim
 | gJ cs=>exact(show False from hc).elim
 | int k n=>exact bh.mono (λ_ _=>rfl) d hc
 | bool b=>exact bh.mono (λ_ _=>rfl) d hc
 | str s=>exact bh.mono (λ_ _=>rfl) d hc
 | bR=>exact bh.mono (λ_ _=>rfl) d hc
 | jk=>exact bh.mono (λ_ _=>rfl) d hc
 | im sz n f=>exact bh.mono (λ_ _=>rfl) d hc
 | ic cs=>exact bh.mono (λ_ _=>rfl) d hc
 | fn f=>exact bh.mono (λ_ _=>rfl) d hc
theorem jh {pv:PV} {v:Value} (a:∀pv v,db μ0 h0 S0 w pv v->db μ1 h1 S1 w (mR σ pv) v) (hc:lE μ0 h0 S0 w pv v):lE μ1 h1 S1 w (xt σ pv) v:=by
 cases pv with
 | agg cs=>
  obtain⟨vs,q1,d,g⟩:=hc;refine⟨vs,q1,by simpa using d,λj pv hj=>?_⟩;rw[aRs]at hj;cases hx:cs[j]? with
  | none=>rw[hx]at hj;cases hj
  | some c=>
   rw[hx]at hj;injection hj with hj;subst hj;obtain⟨u,r1,h⟩:=g j c hx;exact⟨u,r1,a _ _ h⟩
 | kB=>trivial
 | fG sz n e f F=>exact a (.fG sz n e f F) v hc
 | gJ cs=>exact(show False from hc).elim
 | own id gen off len=>exact a (.own id gen off len) v hc
 | aI id gen i off=>exact a (.aI id gen i off) v hc
 | rB id=>exact a (.rB id) v hc
 | qz f dB=>exact a (.qz f dB) v hc
 | int k n=>exact a (.int k n) v hc
 | bool b=>exact a (.bool b) v hc
 | str s=>exact a (.str s) v hc
 | bR=>exact a .bR v hc
 | jk=>exact a .jk v hc
 | im sz n f=>exact a (.im sz n f) v hc
 | ic cs=>exact a (.ic cs) v hc
 | fn f=>exact a (.fn f) v hc
theorem adv {pv:PV} {v:Value} (a:∀pv v,db μ0 h0 S0 w pv v->db μ1 h1 S1 w (mR σ pv) v) (hc:cE μ0 h0 S0 w pv v):cE μ1 h1 S1 w (BM σ pv) v:=by
 cases pv with
 | gJ cs=>
  obtain⟨vs,q1,d,g⟩:=hc;refine⟨vs,q1,by simpa using d,λj pv hj=>?_⟩;rw[aRs]at hj;cases hx:cs[j]? with
  | none=>rw[hx]at hj;cases hj
  | some c=>
   rw[hx]at hj;injection hj with hj;subst hj;obtain⟨u,r1,h⟩:=g j c hx;exact⟨u,r1,jh a h⟩
 | agg cs=>exact jh (pv:=.agg cs) a hc
 | kB=>trivial
 | fG sz n e f F=>exact jh (pv:=.fG sz n e f F) a hc
 | own id gen off len=>exact jh (pv:=.own id gen off len) a hc
 | aI id gen i off=>exact jh (pv:=.aI id gen i off) a hc
 | rB id=>exact jh (pv:=.rB id) a hc
 | qz f dB=>exact jh (pv:=.qz f dB) a hc
 | int k n=>exact jh (pv:=.int k n) a hc
 | bool b=>exact jh (pv:=.bool b) a hc
 | str s=>exact jh (pv:=.str s) a hc
 | bR=>exact jh (pv:=.bR) a hc
 | jk=>exact jh (pv:=.jk) a hc
 | im sz n f=>exact jh (pv:=.im sz n f) a hc
 | ic cs=>exact jh (pv:=.ic cs) a hc
 | fn f=>exact jh (pv:=.fn f) a hc
structure Sel (σ:Nat->Nat) (m:Nat) (h:List ao):Prop where
 lt:∀j,j<m->σ j<h.length
 new:∀j,m<=j->σ j=h.length+(j - m)
 inj:∀i j,i<m->j<m->σ i=σ j->i=j
theorem Sel.aMy {m:Nat} (hs:Sel σ m h) {i j:Nat} (he:σ i=σ j):i=j:=by
 rcases aSf i m with hi | hi
 ·rcases aSf j m with hj | hj
  ·exact hs.inj i j hi hj he
  ·have:=hs.lt i hi;have:=hs.new j hj;omega
 ·rcases aSf j m with hj | hj
  ·have:=hs.lt j hj;have:=hs.new i hi;omega
  ·have:=hs.new i hi;have:=hs.new j hj;omega
structure akZ (σ:Nat->Nat) (h h0 h':List ao):Prop where
 VD:∀id,(∀j,j<h0.length->σ j≠id)->h'[id]? =h[id]?
 sel:∀j o,h0[j]? =some o->h'[σ j]? =some (wj σ o)
 len:h.length<=h'.length
def Fq (μ:Mu) (σ:Nat->Nat) (m:Nat):Mu:=λj=>if j<m then μ (σ j)else none
open Classical in
noncomputable def muA (μ:Mu) (σ:Nat->Nat) (m:Nat) (μ0:Mu):Mu:=λid=>if hx:∃j,j<m/\σ j=id then μ0 (Classical.choose hx)else μ id
theorem ag8 {m:Nat} (a:∀i j,σ i=σ j->i=j) {j:Nat} (hj:j<m):muA μ σ m μ0 (σ j)=μ0 j:=by
 have hx:∃i,i<m/\σ i=σ j:=⟨j,hj,rfl⟩;unfold muA;rw[dif_pos hx,a _ _ (Classical.choose_spec hx).2]
theorem Kf {m id:Nat} (a:∀j,j<m->σ j≠id):muA μ σ m μ0 id=μ id:=by
 unfold muA;rw[dif_neg];rintro⟨j,h1,h2⟩;exact a j h1 h2
theorem gH (q:Sel σ hc.length h) (m:∀j o,hc[j]? =some o->h[σ j]? =some (wj σ o)) {pv:PV} {v:Value} (a:db μ h S w (mR σ pv) v):db (Fq μ σ hc.length) hc S w pv v:=by
 have get:∀id,(∃g sz n e f,hc[id]? =some (ao.row g sz n e f)/\h[σ id]? =some (wj σ (ao.row g sz n e f))/\Fq μ σ hc.length id=μ (σ id))\/(hc[id]? =some ao.dead/\h[σ id]? =some ao.dead)\/h[σ id]? =none:=λid=>by
  cases ho:hc[id]? with
  | none=>
   refine .inr (.inr (aRQ ?_));have r:hc.length<=id:=List.getElem?_eq_none_iff.1 ho;have:=q.new id r;omega
  | some o=>
   have t:=(abF.1 ho).1;cases o with
   | dead=>exact .inr (.inl ⟨rfl,m id _ ho⟩)
   | row g sz n e f=>exact .inl ⟨g,sz,n,e,f,rfl,m id _ ho,by unfold Fq;rw[At t]⟩
 have p:∀(id gen i off:Nat) (v:Value),c7 μ h w (σ id) gen i off v->c7 (Fq μ σ hc.length) hc w id gen i off v:=λid gen i off v a=>by
  unfold c7 at a ⊢;obtain⟨q1,c⟩:=a;refine⟨q1,?_⟩;rcases get id with⟨g,sz,n,e,f,r1,d,l⟩ | ⟨r1,d⟩ | r1
  ·rw[d]at c;rw[r1];show gen<=g/\_;rw[l];exact c
  ·rw[r1];trivial
  ·rw[r1]at c;exact c.elim
 cases pv with
 | own id gen off len=>
  have a:bX μ h w (σ id) gen off len v:=a;show bX _ hc w id gen off len v;unfold bX at a ⊢;obtain⟨q1,c⟩:=a;refine⟨q1,?_⟩;rcases get id with⟨g,sz,n,e,f,r1,d,l⟩ | ⟨r1,d⟩ | r1
  ·rw[d]at c;rw[r1];show gen<=g/\_;rw[l];exact c
  ·rw[r1];trivial
  ·rw[r1]at c;exact c.elim
 | aI id gen i off=>exact p _ _ _ _ _ a
 | qz f dB=>exact wi.mono (wi.aFP (show rF μ h w f (vk σ dB) v from a)) (λid g u hu=>p _ _ _ _ _ hu)
 | rB id=>
  have a:je μ h w (σ id) v:=a;show je _ hc w id v;unfold je at a ⊢;obtain⟨q1,c⟩:=a;refine⟨q1,?_⟩;rcases get id with⟨g,sz,n,e,f,r1,d,l⟩ | ⟨r1,d⟩ | r1
  ·rw[d]at c;rw[r1];obtain⟨b,base,x,y⟩:=c;exact⟨b,base,l.trans x,y⟩
  ·rw[r1];trivial
  ·rw[r1]at c;exact c.elim
 | kB=>exact a
 | fG sz n e f F=>exact a
 | agg cs=>exact(show False from a).elim
 | gJ cs=>exact(show False from a).elim
 | int k n=>exact a
 | bool b=>exact a
 | str s=>exact a
 | bR=>exact a
 | jk=>exact a
 | im sz n f=>exact a
 | ic cs=>exact a
 | fn f=>exact a
theorem Vk (c:Sel σ hc.length h) (d:∀j o,hc[j]? =some o->h[σ j]? =some (wj σ o)) {pv:PV} {v:Value} (a:lE μ h S w (xt σ pv) v):lE (Fq μ σ hc.length) hc S w pv v:=by
 cases pv with
 | agg cs=>
  obtain⟨vs,q1,g,l⟩:=a;refine⟨vs,q1,by simpa using g,λj pv hj=>?_⟩;obtain⟨u,r1,m⟩:=l j (mR σ pv) (by rw[aRs,hj];rfl);exact⟨u,r1,gH c d m⟩
 | kB=>trivial
 | fG sz n e f F=>exact gH (μ:=μ) (S:=S) (w:=w) (pv:=.fG sz n e f F) c d a
 | gJ cs=>exact(show False from a).elim
 | own id gen off len=>exact gH (μ:=μ) (S:=S) (w:=w) (pv:=.own id gen off len) c d a
 | aI id gen i off=>exact gH (μ:=μ) (S:=S) (w:=w) (pv:=.aI id gen i off) c d a
 | rB id=>exact gH (μ:=μ) (S:=S) (w:=w) (pv:=.rB id) c d a
 | qz f dB=>exact gH (μ:=μ) (S:=S) (w:=w) (pv:=.qz f dB) c d a
 | int k n=>exact gH (μ:=μ) (S:=S) (w:=w) (pv:=.int k n) c d a
 | bool b=>exact gH (μ:=μ) (S:=S) (w:=w) (pv:=.bool b) c d a
 | str s=>exact gH (μ:=μ) (S:=S) (w:=w) (pv:=.str s) c d a
 | bR=>exact gH (μ:=μ) (S:=S) (w:=w) (pv:=.bR) c d a
 | jk=>exact gH (μ:=μ) (S:=S) (w:=w) (pv:=.jk) c d a
 | im sz n f=>exact gH (μ:=μ) (S:=S) (w:=w) (pv:=.im sz n f) c d a
 | ic cs=>exact gH (μ:=μ) (S:=S) (w:=w) (pv:=.ic cs) c d a
 | fn f=>exact gH (μ:=μ) (S:=S) (w:=w) (pv:=.fn f) c d a
theorem adx {c:PV} {sz n:Nat} {e:TypeId} {f:Nat->List PV} {F:Nat->Prop} (hc:mR σ c=.fG sz n e f F):c=.fG sz n e f F:=by cases c<;>first | exact hc | cases hc
theorem ag9 {c:PV} (h:eH c=false):eH (mR σ c)=false:=by cases c<;>first | rfl | cases h
theorem ACall.sel {f:FuncId} {args me:List PV} {R:PV->List ao->Prop} (hA:ACall P f args hc R) (h:List ao) (rO:Sel σ hc.length h) (H:∀j o,hc[j]? =some o->h[σ j]? =some (wj σ o))
  (oH:me=args.map (xt σ)) (X:List ao->List ao) (br:∀h0,hc.length<=h0.length->akZ σ h h0 (X h0)):
  ACall P f me h (λres h'=>∃r0 h0,R r0 h0/\res=BM σ r0/\h'=X h0):=by
 refine⟨hA.1,λw vs μ S hH B kS ha=>?_⟩;subst oH;have Y:∀i j,σ i=σ j->i=j:=λi j=>rO.aMy
 have M:∀b,Hx (Fq μ σ hc.length) hc b->Hx μ h b:=λb ⟨j,g,sz,n,e,f,base,q1,d⟩=>by
  have N:=(abF.1 q1).1;unfold Fq at d;rw[At N]at d;exact⟨σ j,g,sz,n,e,_,base,H j _ q1,d⟩
 have Vl:∀j x y b,eR hc j x y b->eR h (σ j) x y b:=λj x y b ⟨g,sz,n,e,f,cV,n',e',f',F',q1,d,C,q4⟩=>⟨g,sz,n,e,_,cV,n',e',f',F',H j _ q1,d,by
  show((f x).map (mR σ))[y]? =_;rw[aRs,C];rfl,q4⟩
 have I:∀b,dL (Fq μ σ hc.length) hc b->dL μ h b/\True:=λb s=>by
  rcases s with s | ⟨x,y,z,s⟩
  ·exact⟨.inl (M b s),trivial⟩
  ·exact⟨.inr ⟨_,_,_,Vl _ _ _ _ s⟩,trivial⟩
 have bs:dA (Fq μ σ hc.length) hc S w:=λj g sz n e f hj=>by
  have N:=(abF.1 hj).1;obtain⟨q1,d⟩:=hH (σ j) _ _ _ _ _ (H j _ hj);refine⟨λi hi=>by simpa using q1 i hi,?_⟩;have hm:Fq μ σ hc.length j=μ (σ j):=by unfold Fq;rw[At N]
  rw[hm];cases O:μ (σ j)with
  | none=>rw[O]at d;exact d
  | some p=>
   obtain⟨b,base⟩:=p;rw[O]at d;obtain⟨o,r1,m⟩:=d;refine⟨o,r1,?_⟩;cases o with
   | cells cur e' z=>
    obtain⟨Z,x2,x3,D⟩:=m;refine⟨Z,x2,x3,λi k pv hi Q=>?_⟩;obtain⟨u,s1,s2⟩:=D i k (mR σ pv) hi (by rw[aRs,Q];rfl);refine⟨u,s1,?_⟩;cases hx:eH pv with
    | false=>exact(gH rO H s2.c).k hx
    | true=>
     cases pv with
     | fG oh n2 e2 f2 F2=>exact s2
     | _=>cases hx
   | map es c=>
    obtain⟨Z,D⟩:=m;refine⟨Z,λi hi=>?_⟩;obtain⟨kp,vp,en,y1,y2,y3,y4⟩:=D i hi;refine⟨kp,vp,en,?_,y2,y3,y4⟩;have y1:(f i).map (mR σ)=[kp,vp]:=y1;generalize f i=l at y1;rcases l with _ | ⟨a,_ | ⟨b,_ | ⟨c3,l3⟩⟩⟩<;>simp at y1;obtain⟨rfl,rfl⟩:=y1;rw[HV y2,HV y3]
   | _=>exact m.elim
 have bt:uY (Fq μ σ hc.length) hc S w:=⟨λb s=>B.apart b (I b s).1,λb s=>B.lt b (I b s).1,B.slt,λi j gi VA ni ei fi gj ny nj ej fj b o o' hi hj oF oa=>by
  have bw:=(abF.1 hi).1;have b0:=(abF.1 hj).1;unfold Fq at oF oa;rw[At bw]at oF;rw[At b0]at oa;exact Y _ _ (B.inj _ _ _ _ _ _ _ _ _ _ _ _ _ _ _ (H i _ hi) (H j _ hj) oF oa),B.known,λb s x y z hx=>B.hv b (M b s) _ _ _ (Vl _ _ _ _ hx),λb x y z x' y' z' hx wh=>by
  obtain⟨J,e2,T⟩:=B.hh b _ _ _ _ _ _ (Vl _ _ _ _ hx) (Vl _ _ _ _ wh);exact⟨Y _ _ J,e2,T⟩⟩
 refine(hA.2 w vs _ S bs bt (by simpa using kS) (λj pv hj=>?_)).mono ?_
 ·obtain⟨v,q1,d⟩:=ha j (xt σ pv) (by rw[aRs,hj];rfl);exact⟨v,q1,Vk rO H d⟩
 ·rintro e w' ⟨v,r0,h0,μ0,S0,he,hR,hv,b1,Kz,A⟩;have hlen:hc.length<=h0.length:=A.len;have G:=br h0 hlen;obtain⟨h',ad⟩:∃h',h'=X h0:=⟨_,rfl⟩;rw[<-ad]at G;have U:∀j,j<h0.length->muA μ σ h0.length μ0 (σ j)=μ0 j:=λj hj=>ag8 Y hj
  have inv:∀id o,h'[id]? =some o->(∃j W,σ j=id/\h0[j]? =some W/\o=wj σ W/\muA μ σ h0.length μ0 id=μ0 j)\/((∀j,j<h0.length->σ j≠id)/\h[id]? =some o/\muA μ σ h0.length μ0 id=μ id):=λid o hid=>by
   by_cases hx:∃j,j<h0.length/\σ j=id
   ·obtain⟨j,hj,rfl⟩:=hx;have:=G.sel j _ (abL hj);rw[this]at hid;injection hid with hid;exact .inl ⟨j,_,rfl,abL hj,hid.symm,U j hj⟩
   ·have F:∀j,j<h0.length->σ j≠id:=λj hj he=>hx ⟨j,hj,he⟩;rw[G.VD id F]at hid;exact .inr ⟨F,hid,Kf F⟩
  have apart:∀id g sz n e f b base,(∀j,j<h0.length->σ j≠id)->h[id]? =some (ao.row g sz n e f)->μ id=some (b,base)->¬dL (Fq μ σ hc.length) hc b:=λid g sz n e f b base F hid hm K=>by
   rcases K with⟨j,gj,ny,nj,ej,fj,bj,q1,d⟩ | ⟨x,y,z,hx⟩;rotate_left
   ·exact B.hv b ⟨id,g,sz,n,e,f,base,hid,hm⟩ _ _ _ (Vl _ _ _ _ hx)
   have N:=(abF.1 q1).1;unfold Fq at d;rw[At N]at d;exact F j aUE (B.inj _ _ _ _ _ _ _ _ _ _ _ _ _ _ _ (H j _ q1) hid d hm)
  have Fs:∀id x y b,(∀j,j<h0.length->σ j≠id)->eR h id x y b->¬dL (Fq μ σ hc.length) hc b:=λid x y b F hx K=>by
   rcases K with K | ⟨j,x',y',wh⟩
   ·exact B.hv b (M b K) _ _ _ hx
   ·obtain⟨J,_,_⟩:=B.hh b _ _ _ _ _ _ (Vl _ _ _ _ wh) hx;obtain⟨_,_,_,_,_,_,_,_,_,_,q1,_⟩:=wh;have:=(abF.1 q1).1;exact F j aUE J
  have ag:∀b,Hx (muA μ σ h0.length μ0) h' b->Hx μ0 h0 b\/∃id g sz n e f base,(∀j,j<h0.length->σ j≠id)/\h[id]? =some (ao.row g sz n e f)/\μ id=some (b,base):=λb ⟨id,g,sz,n,e,f,base,q1,d⟩=>by
   rcases inv id _ q1 with⟨j,W,rfl,r1,m,D⟩ | ⟨r1,m,D⟩
   ·rw[D]at d;cases W with
    | dead=>cases m
    | row g0 V n0 e0 f0=>exact .inl ⟨j,g0,V,n0,e0,f0,base,r1,d⟩
   ·rw[D]at d;exact .inr ⟨id,g,sz,n,e,f,base,r1,m,d⟩
  have HZ:∀id x y b,eR h' id x y b->(∃j,σ j=id/\eR h0 j x y b)\/((∀j,j<h0.length->σ j≠id)/\eR h id x y b):=λid x y b ⟨g,sz,n,e,f,cV,n',e',f',F',q1,d,C,q4⟩=>by
   rcases inv id _ q1 with⟨j,W,rfl,r1,m,D⟩ | ⟨r1,m,D⟩
   ·cases W with
    | dead=>cases m
    | row g0 V n0 e0 f0=>
     injection m with J e2 T e4 e5;subst J e2 T e4 e5;rw[aRs]at C;cases hx:(f0 x)[y]? with
     | none=>rw[hx]at C;cases C
     | some c=>
      rw[hx]at C;injection C with C;rw[adx C]at hx;exact .inl ⟨j,rfl,_,_,_,_,_,_,_,_,_,_,r1,d,hx,q4⟩
   ·exact .inr ⟨r1,_,_,_,_,_,_,_,_,_,_,m,d,C,q4⟩
  have om:∀b,dL (muA μ σ h0.length μ0) h' b->dL μ0 h0 b\/(dL μ h b/\¬dL (Fq μ σ hc.length) hc b):=λb s=>by
   rcases s with s | ⟨x,y,z,s⟩
   ·rcases ag b s with q | ⟨id,g,sz,n,e,f,base,q1,d,C⟩
    ·exact .inl (.inl q)
    ·exact .inr ⟨.inl ⟨id,g,sz,n,e,f,base,d,C⟩,apart id _ _ _ _ _ _ _ q1 d C⟩
   ·rcases HZ x y z b s with⟨j,_,q⟩ | ⟨q1,d⟩
    ·exact .inl (.inr ⟨_,_,_,q⟩)
    ·exact .inr ⟨.inr ⟨_,_,_,d⟩,Fs _ _ _ _ q1 d⟩
  have mixed:∀b,dL μ0 h0 b->dL μ h b->¬dL (Fq μ σ hc.length) hc b->False:=λb q1 d C=>by
   rcases A.own b q1 with r | r
   ·exact C r
   ·have:=B.lt b d;omega
  have mi:Fr μ h S w (muA μ σ h0.length μ0) h' S0 w':=by
   refine⟨G.len,λb s Bp=>A.blocks b s (λho=>Bp (I b ho).1),A.sub,λb s=>?_,λb s=>?_,A.size,A.os,A.tape,A.output,λid g sz n e f hid=>?_,λid hid=>?_,λb k s iQ=>?_,λid g sz n e f b base hid hm ow=>?_,λb id x y hx ow=>?_⟩;rotate_right
   ·by_cases ho:dL (Fq μ σ hc.length) hc b
    ·rcases ho with ho | ⟨j,x',y',ho⟩
     ·exact absurd hx (B.hv b (M b ho) _ _ _)
     ·exact A.yK b j x' y' ho ow
    ·obtain⟨es,c,q⟩:=ow;exact⟨es,c,(A.blocks b (aRa.1 q).1 ho).trans q⟩
   ·rcases A.new b s with q | q | q
    ·exact .inl q
    ·exact .inr (.inl (I b q).1)
    ·exact .inr (.inr q)
   ·rcases om b s with q | ⟨q,_⟩
    ·rcases A.own b q with r | r
     ·exact .inl (I b r).1
     ·exact .inr r
    ·exact .inl q
   ·by_cases hx:∃j,j<hc.length/\σ j=id
    ·obtain⟨j,hj,rfl⟩:=hx;have rR:j<h0.length:=by omega
     have L:=abL hj;have K:=H j _ L;rw[K]at hid;cases E:hc[j]with
     | dead=>rw[E]at hid;cases hid
     | row gc a6 nc ec fc=>
      rw[E]at hid L;injection hid with hid;injection hid with J e2 T e4 e5;subst J e2 T e4;have hg:=A.EO j _ _ _ _ _ L;have hs:=G.sel j _ (abL rR);rw[abL rR]at hg;rw[hs];cases b3:h0[j]with
      | dead=>trivial
      | row g' cV n' e' f'=>
       rw[b3]at hg;refine⟨hg.1,λKv=>?_⟩;obtain⟨a1,a2,a3,a4⟩:=hg.2 Kv;refine⟨?_,a2,a3,a4⟩;rw[U j rR,a1];unfold Fq;rw[At hj]
    ·have F:∀j,j<h0.length->σ j≠id:=λj hj he=>by
      rcases aSf j hc.length with h1 | h1
      ·exact hx ⟨j,h1,he⟩
      ·have:=rO.new j h1;have:=(abF.1 hid).1;omega
     rw[G.VD id F,hid];exact⟨Of _,λ_=>⟨Kf F,rfl,rfl,rfl⟩⟩
   ·by_cases hx:∃j,j<hc.length/\σ j=id
    ·obtain⟨j,hj,rfl⟩:=hx;have rR:j<h0.length:=by omega
     have L:=abL hj;have K:=H j _ L;rw[K]at hid;cases E:hc[j]with
     | row gc a6 nc ec fc=>rw[E]at hid;cases hid
     | dead=>
      rw[E]at L;have hd:=A.dead j L;exact G.sel j _ hd
    ·have F:∀j,j<h0.length->σ j≠id:=λj hj he=>by
      rcases aSf j hc.length with h1 | h1
      ·exact hx ⟨j,h1,he⟩
      ·have:=rO.new j h1;have:=(abF.1 hid).1;omega
     rw[G.VD id F,hid]
   ·by_cases ho:dL (Fq μ σ hc.length) hc b
    ·exact A.dB b k ho iQ
    ·exact lZ.of_same (A.blocks b iQ.lt ho) iQ
   ·by_cases hx:∃j,j<hc.length/\σ j=id
    ·obtain⟨j,hj,rfl⟩:=hx;have rR:j<h0.length:=by omega
     have L:=abL hj;have K:=H j _ L;rw[K]at hid;cases E:hc[j]with
     | dead=>rw[E]at hid;cases hid
     | row gc a6 nc ec fc=>
      rw[E]at hid L;have b4:Fq μ σ hc.length j=some (b,base):=by unfold Fq;rw[At hj];exact hm
      obtain⟨r1,m⟩:=A.maps j _ _ _ _ _ b base L b4 ow;refine⟨r1,?_⟩;rcases m with m | ⟨⟨g',cV,n',e',f',m⟩,D⟩
      ·exact .inl (G.sel j _ m)
      ·exact .inr ⟨⟨_,_,_,_,_,G.sel j _ m⟩,(U j rR).trans D⟩
    ·have F:∀j,j<h0.length->σ j≠id:=λj hj he=>by
      rcases aSf j hc.length with h1 | h1
      ·exact hx ⟨j,h1,he⟩
      ·have:=rO.new j h1;have:=(abF.1 hid).1;omega
     obtain⟨es,c,q⟩:=ow;exact⟨⟨es,c,(A.blocks b (aRa.1 q).1 (apart id _ _ _ _ _ _ _ F hid hm)).trans q⟩,.inr ⟨⟨_,_,_,_,_,(G.VD id F).trans hid⟩,(Kf F).trans hm⟩⟩
  have bB:∀pv v,db μ0 h0 S0 w' pv v->db (muA μ σ h0.length μ0) h' S0 w' (mR σ pv) v:=λpv v b5=>by
   refine adu (λj=>?_) (λ_ s=>s) b5;cases ho:h0[j]? with
   | none=>exact .inr (.inr rfl)
   | some o=>
    have N:=(abF.1 ho).1;cases o with
    | dead=>exact .inr (.inl ⟨rfl,G.sel j _ ho⟩)
    | row g sz n e f=>exact .inl ⟨g,sz,n,e,f,rfl,⟨_,G.sel j _ ho⟩,U j N⟩
  refine⟨v,_,h',_,S0,he,⟨r0,h0,hR,rfl,?_⟩,adv bB hv,λid g sz n e f hid=>?_,⟨λb s hs=>?_,λb s=>?_,Kz.slt,?_,Kz.known,λb s id x y hx=>?_,λb id x y a8 x' y' hx wh=>?_⟩,mi⟩;rotate_right 2
  ·rcases ag b s with q | ⟨k,g,sz,n,e,f,base,q1,d,C⟩
   ·rcases HZ id x y b hx with⟨j,_,r⟩ | ⟨r1,m⟩
    ·exact Kz.hv b q _ _ _ r
    ·exact mixed b (.inl q) (.inr ⟨_,_,_,m⟩) (Fs _ _ _ _ r1 m)
   ·rcases HZ id x y b hx with⟨j,_,r⟩ | ⟨r1,m⟩
    ·exact mixed b (.inr ⟨_,_,_,r⟩) (.inl ⟨k,g,sz,n,e,f,base,d,C⟩) (apart k _ _ _ _ _ _ _ q1 d C)
    ·exact B.hv b ⟨k,g,sz,n,e,f,base,d,C⟩ _ _ _ m
  ·rcases HZ id x y b hx with⟨j,rfl,r⟩ | ⟨r1,m⟩
   ·rcases HZ a8 x' y' b wh with⟨j',rfl,t⟩ | ⟨t1,t2⟩
    ·obtain⟨J,e2,T⟩:=Kz.hh b _ _ _ _ _ _ r t;exact⟨by rw[J],e2,T⟩
    ·exact(mixed b (.inr ⟨_,_,_,r⟩) (.inr ⟨_,_,_,t2⟩) (Fs _ _ _ _ t1 t2)).elim
   ·rcases HZ a8 x' y' b wh with⟨j',rfl,t⟩ | ⟨t1,t2⟩
    ·exact(mixed b (.inr ⟨_,_,_,t⟩) (.inr ⟨_,_,_,m⟩) (Fs _ _ _ _ r1 m)).elim
    ·exact B.hh b _ _ _ _ _ _ m t2
  ·exact ad
  ·rcases inv id _ hid with⟨j,W,rfl,r1,m,D⟩ | ⟨r1,m,D⟩
   ·cases W with
    | dead=>cases m
    | row g0 V n0 e0 f0=>
     injection m with J e2 T e4 e5;subst J e2 T e4 e5;obtain⟨q1,d⟩:=b1 j _ _ _ _ _ r1;refine⟨λi hi=>by simpa using q1 i hi,?_⟩;rw[D];cases O:μ0 j with
     | none=>rw[O]at d;exact d
     | some p=>
      obtain⟨b,base⟩:=p;rw[O]at d;obtain⟨o,s1,s2⟩:=d;refine⟨o,s1,?_⟩;cases o with
      | cells cur e' z=>
       obtain⟨Z,x2,x3,s3⟩:=s2;refine⟨Z,x2,x3,λi k pv hi Q=>?_⟩;rw[aRs]at Q;cases hx:(f0 i)[k]? with
       | none=>rw[hx]at Q;cases Q
       | some c=>
        rw[hx]at Q;injection Q with Q;subst Q;obtain⟨u,t1,t2⟩:=s3 i k c hi hx;refine⟨u,t1,?_⟩;cases a9:eH c with
        | false=>exact(bB _ _ t2.c).k (ag9 a9)
        | true=>
         cases c with
         | fG oh n2 e2 f2 F2=>exact t2
         | _=>cases a9
      | map es c=>
       obtain⟨Z,s3⟩:=s2;refine⟨Z,λi hi=>?_⟩;obtain⟨kp,vp,en,y1,y2,y3,y4⟩:=s3 i hi;exact⟨kp,vp,en,by show(f0 i).map (mR σ)=_;rw[y1];show[mR σ kp,mR σ vp]=_;rw[HW y2,HW y3],y2,y3,y4⟩
      | _=>exact s2.elim
   ·obtain⟨q1,d⟩:=hH id _ _ _ _ _ m;refine⟨q1,?_⟩;rw[D];cases O:μ id with
    | none=>rw[O]at d;exact d
    | some p=>
     obtain⟨b,base⟩:=p;rw[O]at d;obtain⟨o,s1,s2⟩:=d;have N:b<w.heap.size:=(aRa.1 s1).1
     exact⟨o,(A.blocks b N (apart id _ _ _ _ _ _ _ r1 m O)).trans s1,s2.mono (λi y pv v hi hy hr=>hr.fr mi B (λcV n' e' f' F' he b2 xM=>by
      have hx:eR h id i y b2:=⟨_,_,_,_,_,_,_,_,_,_,m,hi,he▸hy,xM⟩;exact A.blocks b2 (B.lt b2 (.inr ⟨_,_,_,hx⟩)) (Fs _ _ _ _ r1 hx)))⟩
  ·rcases om b s with q | ⟨q1,d⟩
   ·exact Kz.apart b q hs
   ·rcases A.new b hs with r | r | r
    ·exact B.apart b q1 r
    ·exact d r
    ·have:=B.lt b q1;omega
  ·rcases om b s with q | ⟨q1,_⟩
   ·exact Kz.lt b q
   ·exact aRx (B.lt b q1) A.size
  ·intro i j gi VA ni ei fi gj ny nj ej fj b o o' hi hj oF oa
   have bo:∀(i':Nat) (o1:ao) (g sz n:Nat) (e:TypeId) (f:Nat->List PV) (oo:Nat) (id g2 oh n2:Nat) (e2:TypeId) (f2:Nat->List PV) (aa:Nat),h0[i']? =some (ao.row g sz n e f)->μ0 i'=some (b,oo)->(∀j,j<h0.length->σ j≠id)->h[id]? =some (ao.row g2 oh n2 e2 f2)->μ id=some (b,aa)->False:=
    λi' o1 g sz n e f oo id g2 oh n2 e2 f2 aa a1 a2 a3 a4 a5=>by
     exact mixed b (.inl ⟨i',g,sz,n,e,f,oo,a1,a2⟩) (.inl ⟨id,g2,oh,n2,e2,f2,aa,a4,a5⟩) (apart id _ _ _ _ _ _ _ a3 a4 a5)
   rcases inv i _ hi with⟨i0,oi,rfl,r1,m,D⟩ | ⟨r1,m,D⟩
   ·rw[D]at oF;cases oi with
    | dead=>cases m
    | row g0 V n0 e0 f0=>
     rcases inv j _ hj with⟨j0,oj,rfl,t1,t2,t3⟩ | ⟨t1,t2,t3⟩
     ·rw[t3]at oa;cases oj with
      | dead=>cases t2
      | row g2 oh n2 e2 f2=>rw[Kz.inj i0 j0 _ _ _ _ _ _ _ _ _ _ _ _ _ r1 t1 oF oa]
     ·rw[t3]at oa;exact(bo i0 ao.dead _ _ _ _ _ _ _ _ _ _ _ _ _ r1 oF t1 t2 oa).elim
   ·rw[D]at oF;rcases inv j _ hj with⟨j0,oj,rfl,t1,t2,t3⟩ | ⟨t1,t2,t3⟩
    ·rw[t3]at oa;cases oj with
     | dead=>cases t2
     | row g2 oh n2 e2 f2=>exact(bo j0 ao.dead _ _ _ _ _ _ _ _ _ _ _ _ _ t1 oa r1 m oF).elim
    ·rw[t3]at oa;exact B.inj i j _ _ _ _ _ _ _ _ _ _ _ _ _ m t2 oF oa
def eU (is:List Nat) (N:Nat) (j:Nat):Nat:=match is[j]? with
 | some id=>id
 | none=>N+(j - is.length)
def pf (h:List ao):List Nat->List ao->List ao
 | id::r,o::l=>pf (h.set id o) r l
 | _,_=>h
def xu (h:List ao) (is:List Nat) (h0:List ao):List ao:=
 pf h is (h0.map (wj (eU is h.length)))++(h0.drop is.length).map (wj (eU is h.length))
theorem iI:∀(is:List Nat) (l h:List ao),(pf h is l).length=h.length
 | [],[],_=>rfl
 | [],_::_,_=>rfl
 | _::_,[],_=>rfl
 | id::r,o::l,h=>by simp only[pf];rw[iI r l];simp
theorem zF:∀(is:List Nat) (l h:List ao) (id:Nat),id∉is->(pf h is l)[id]? =h[id]?
 | [],[],_,_,_=>rfl
 | [],_::_,_,_,_=>rfl
 | _::_,[],_,_,_=>rfl
 | i::r,o::l,h,id,a=>by
  simp only[aRo,not_or]at a;simp only[pf];rw[zF r l _ id a.2,aRB (aSA a.1)]
theorem Ft:∀(is:List Nat) (l h:List ao) (j id:Nat) (o:ao),is.Nodup->is[j]? =some id->l[j]? =some o->id<h.length->(pf h is l)[id]? =some o
 | [],_,_,_,_,_,_,h1,_,_=>by simp at h1
 | _::_,[],_,_,_,_,_,_,h2,_=>by simp at h2
 | i::r,b::l,h,j,id,o,hd,h1,h2,a=>by
  simp only[List.nodup_cons]at hd;simp only[pf];cases j with
  | zero=>
   simp at h1 h2;subst h1 h2;rw[zF r l _ _ hd.1];simp [a]
  | succ j=>
   exact Ft r l _ j id o hd.2 aVi aVh (by simpa using a)
theorem asr (is:List Nat) (h:List ao) (hd:is.Nodup) (a:∀id∈is,id<h.length):Sel (eU is h.length) is.length h where
 lt j hj:=by
  unfold eU;rw[abL hj];exact a _ (aRr hj)
 new j hj:=by
  unfold eU;rw[aRQ hj]
 inj i j hi hj he:=by
  unfold eU at he;rw[abL hi,abL hj]at he;exact(List.getElem_inj hd).1 he
theorem adz (is:List Nat) (h h0:List ao) (hd:is.Nodup) (c:∀id∈is,id<h.length) (hle:is.length<=h0.length):akZ (eU is h.length) h h0 (xu h is h0) where
 len:=by unfold xu;rw[It,iI];omega
 VD id a:=by
  unfold xu;rcases aSf id h.length with h1 | h1
  ·rw[aRJ (by rw[iI];exact h1),zF];intro hm;obtain⟨j,hj,rfl⟩:=aSG.1 hm;refine a j aUE ?_;unfold eU;rw[abL hj]
  ·rw[aRv (by rw[iI];exact h1),iI,aRQ h1,aRQ];simp only[aSp,aRI];rcases aSf (id - h.length) (h0.length - is.length)with h2 | h2
   ·refine(a (is.length+(id - h.length)) aUE ?_).elim;unfold eU;rw[aRQ aUE];simp;omega
   ·exact h2
 sel j o hj:=by
  have d:=(abF.1 hj).1;unfold xu;rcases aSf j is.length with h1 | h1
  ·have hs:eU is h.length j=is[j]:=by unfold eU;rw[abL h1]
   have b:=c _ (aRr h1);rw[hs,aRJ (by rw[iI];exact b)];exact Ft is _ h j _ _ hd (abL h1) (by rw[aRs,hj];rfl) b
  ·have hs:eU is h.length j=h.length+(j - is.length):=by unfold eU;rw[aRQ h1]
   rw[hs,aRv (by rw[iI];omega),iI,aRs,aSs];rw[show is.length+(h.length+(j - is.length) - h.length)=j from by omega,hj];rfl
theorem ACall.over {f:FuncId} {args a:List PV} {R:PV->List ao->Prop} (c:ACall P f args hc R) (is:List Nat) (h:List ao) (d:hc.length=is.length) (hd:is.Nodup) (b:∀id∈is,id<h.length)
  (e:∀j o,hc[j]? =some o->h[eU is h.length j]? =some (wj (eU is h.length) o)) (g:a=args.map (xt (eU is h.length))):
  ACall P f a h (λres h'=>∃r0 h0,R r0 h0/\res=BM (eU is h.length) r0/\h'=xu h is h0):=
 c.sel h (by rw[d];exact asr is h hd b) e g (xu h is) (λh0 hle=>adz is h h0 hd b aUE)
end
def look (l:List (Nat×TI)) (t:Nat):TI:=match l with
 | []=>.other
 | (k,a)::r=>match Nat.beq t k with
  | true=>a
  | false=>look r t
def yL (l:List (Nat×TI)):ru:=⟨look l⟩
def js:List Value->List PV->Bool
 | [],[]=>true
 | .int k n::r,.int a c::r'=>xi k a&&n==c&&js r r'
 | .bool b::r,.bool d::r'=>b==d&&js r r'
 | .string s::r,.str s'::r'=>s.data.toList==s'&&js r r'
 | .slice none 0 0::r,.bR::r'=>js r r'
 | .pointer none::r,.jk::r'=>js r r'
 | _,_=>false
def vn (P:Program) (t n:Nat):Bool:=match P.info? t with
 | some i=>Nat.beq i.size n
 | none=>false
def uj (P:Program):List Field->List (Nat×Nat×Bool)->Bool
 | [],[]=>true
 | f::r,(off,size,a)::r'=>Nat.beq f.offset off&&vn P f.type size&&Nat.blt 0 size&&(match P.underlying f.type with | some d=>a==Gr d | none=>false)&&uj P r r'
 | _,_=>false
def Kg:Value->PV->Bool
 | .int k n,.int a c=>xi k a&&n==c
 | .bool b,.bool d=>b==d
 | .string s,.str s'=>s.data.toList==s'
 | _,_=>false
theorem Kh {v:Value} {z:PV} (h:Kg v z=true):Gt z v/\rv z=true/\storable z=true:=by
 unfold Kg at h;split at h
 ·simp only[No,aRi]at h;obtain⟨h1,rfl⟩:=h;obtain rfl:=nx h1;exact⟨rfl,rfl,rfl⟩
 ·rw[aRi]at h;subst h;exact⟨rfl,rfl,rfl⟩
 ·rw[aRi]at h;subst h;exact⟨rfl,rfl,rfl⟩
 ·cases h
def p9 (P:Program) (t:Nat):TI->Bool
 | .int k=>(match P.underlying t with | some (.int c)=>xi k c | _=>false)&&vn P t 1
 | .bool=>(match P.underlying t with | some .bool=>true | _=>false)&&vn P t 1
 | .str=>(match P.underlying t with | some .string=>true | _=>false)&&vn P t 1
 | .ptr e=>(match P.underlying t with | some (.pointer e')=>Nat.beq e e' | _=>false)&&vn P t 1
 | .slice e sz b z=>(match P.underlying t with | some (.slice e')=>Nat.beq e e' | _=>false)&&vn P t 1&&Nat.blt 0 sz&&Nat.blt 0 b&&
   (match P.info? e with
    | some i=>Nat.beq i.size sz&&Nat.beq i.bytes b&&(match i.zero with | some a=>Nat.beq a.cells.size sz&&js a.cells.toList z | none=>false)
    | none=>false)
 | .struct sz fl z=>(!(EC z)||QC P t z)&&(match P.underlying t with | some (.struct fs)=>uj P fs.toList fl | _=>false)&&
   (match P.info? t with
    | some i=>Nat.beq i.size sz&&(match i.zero with | some a=>Nat.beq a.cells.size sz&&js a.cells.toList z | none=>false)
    | none=>false)
 | .map k e z=>(match P.underlying t with | some (.map c e')=>Nat.beq k c&&Nat.beq e e' | _=>false)&&vn P t 1&&(match P.info? e with
   | some i=>(match i.zero with | some a=>Kg a z | none=>false)
   | none=>false)
 | .other=>true
def zeroAt (P:Program) (t:Nat) (z:List PV) (n:Nat):Bool:=match P.info? t with
 | some i=>match i.zero with
  | some a=>Nat.beq a.cells.size n&&Nat.beq z.length n&&js a.cells.toList z
  | none=>false
 | none=>false
def ahb (P:Program) (t:Nat) (a:TI):Bool:=p9 P t a&&(match ED a with | some z=>zeroAt P t z (mz a) | none=>true)
theorem xI:∀(vs:List Value) (z:List PV),js vs z=true->vs.length=z.length/\∀(j:Nat) (u:Value),vs[j]? =some u->∃pv:PV,z[j]? =some pv/\u.oneCell'=true/\∀S w,bh S w pv u:=by
 intro vs;induction vs with
 | nil=>
  intro z d;cases z with
  | nil=>exact⟨rfl,λj u hj=>by simp at hj⟩
  | cons a r=>simp [js]at d
 | cons v vs g=>
  intro z d;cases z with
  | nil=>cases v<;>simp [js]at d
  | cons p z=>
   have step:∀(e:js vs z=true) (f:v.oneCell'=true) (hp:∀S w,bh S w p v),(v::vs).length=(p::z).length/\∀(j:Nat) (u:Value),(v::vs)[j]? =some u->∃pv:PV,(p::z)[j]? =some pv/\u.oneCell'=true/\∀S w,bh S w pv u:=by
    intro e f hp;obtain⟨h1,h2⟩:=g z e;refine⟨by simp [h1],λj u hj=>?_⟩;cases j with
    | zero=>simp at hj;subst hj;exact⟨p,rfl,f,hp⟩
    | succ j=>simp at hj;obtain⟨pv,q1,h⟩:=h2 j u hj;exact⟨pv,by simpa using q1,h⟩
   cases v with
   | int k n=>
    cases p<;>simp [js]at d;obtain⟨⟨i,l⟩,d⟩:=d;have:=nx i;subst this l;exact step d rfl λS w=>.int _ _
   | bool b=>
    cases p<;>simp [js]at d;obtain⟨m,d⟩:=d;subst m;exact step d rfl λS w=>.bool _
   | string s=>
    cases p<;>simp [js]at d;obtain⟨hs,d⟩:=d;subst hs;exact step d rfl λS w=>bh.str _
   | slice a n c=>
    cases a with
    | some a=>cases p<;>simp [js]at d
    | none=>
     cases n with
     | succ n=>cases p<;>simp [js]at d
     | zero=>
      cases c with
      | succ c=>cases p<;>simp [js]at d
      | zero=>
       cases p<;>simp [js]at d;exact step d rfl λS w=>.bR
   | pointer a=>
    cases a with
    | some a=>cases p<;>simp [js]at d
    | none=>
     cases p<;>simp [js]at d;exact step d rfl λS w=>.jk
   | _=>cases p<;>simp [js]at d
theorem mh {P:Program} {t n:Nat} (h:vn P t n=true):∃i,P.info? t=some i/\i.size=n:=by
 unfold vn at h;split at h
 ·rename_i i hi;exact⟨i,hi,amb h⟩
 ·cases h
theorem yN {P:Program}:∀(fs:List Field) (fl:List (Nat×Nat×Bool)),uj P fs fl=true->fl.length=fs.length/\
  ∀(k:Nat) (off size:Nat) (b:Bool),fl[k]? =some (off,size,b)->∃f j d,fs[k]? =some f/\f.offset=off/\P.info? f.type=some j/\j.size=size/\0<size/\P.underlying f.type=some d/\b=Gr d
 | [],[],_=>⟨rfl,λk off size b a=>by simp at a⟩
 | [],_::_,h=>by simp [uj]at h
 | _::_,[],h=>by simp [uj]at h
 | f::r,(off,size,b)::r',h=>by
  simp only[uj,No]at h;obtain⟨⟨⟨⟨h1,h2⟩,l⟩,c⟩,m⟩:=h;obtain⟨q1,n⟩:=yN r r' m;refine⟨by simp [q1],λk e g i a=>?_⟩;cases k with
  | zero=>
   simp at a;obtain⟨rfl,rfl,rfl⟩:=a;obtain⟨j,hj,o⟩:=mh h2;cases hu:P.underlying f.type with
   | none=>rw[hu]at c;cases c
   | some d=>
    rw[hu]at c;exact⟨f,j,d,rfl,amb h1,hj,o,by simpa using l,hu,by simpa using c⟩
  | succ k=>exact n k e g i (by simpa using a)
theorem Nk:∀(l:List (Nat×TI)) (t:Nat) (a:TI),look l t=a->a=.other\/(t,a)∈l
 | [],t,a,h=>.inl h.symm
 | (k,x)::r,t,a,h=>by
  unfold look at h;split at h
  ·rename_i b;have:=amb b;subst this h;exact .inr aUG
  ·rcases Nk r t a h with h1 | h1
   ·exact .inl h1
   ·exact .inr (by simp [h1])
theorem aFm {P:Program} {l:List (Nat×TI)} (B:l.all (λp=>ahb P p.1 p.2)=true):fL P (yL l):=by
 have q:∀t c,(yL l).get t=c->c≠.other->ahb P t c=true:=λt c a x=>by
  rcases Nk l t c a with h1 | h1
  ·exact(x h1).elim
  ·exact(aRg.1 B) _ h1
 have all:∀t c,(yL l).get t=c->c≠.other->p9 P t c=true:=λt c a x=>by
  have:=q t c a x;simp only[ahb,No]at this;exact this.1
 have zero:∀t z,ED ((yL l).get t)=some z->∃i g,P.info? t=some i/\i.zero=some g/\g.cells.size=mz ((yL l).get t)/\z.length=mz ((yL l).get t)/\
   ∀(j:Nat) (u:Value),g.cells[j]? =some u->∃pv:PV,z[j]? =some pv/\u.oneCell'=true/\∀S w,bh S w pv u:=λt z m=>by
  have:=q t _ rfl (by intro h0;rw[h0]at m;cases m);simp only[ahb,No]at this;have:=this.2;rw[m]at this;simp only[zeroAt]at this;split at this
  ·rename_i i hi;split at this
   ·rename_i g y;simp only[No]at this;obtain⟨⟨h1,h2⟩,n⟩:=this;obtain⟨_,o⟩:=xI _ _ n;exact⟨i,g,hi,y,amb h1,amb h2,λj u hj=>o j u aUV⟩
   ·cases this
  ·cases this
 have one:∀t,mz ((yL l).get t)=1->(∀sz fl z,(yL l).get t≠.struct sz fl z)->∃i,P.info? t=some i/\i.size=1:=λt h1 h2=>by
  cases a:(yL l).get t with
  | other=>rw[a]at h1;cases h1
  | struct sz fl z=>exact(h2 _ _ _ a).elim
  | int k=>have:=all t _ a aUG;simp only[p9,No]at this;exact mh this.2
  | bool=>have:=all t _ a aUG;simp only[p9,No]at this;exact mh this.2
  | str=>have:=all t _ a aUG;simp only[p9,No]at this;exact mh this.2
  | ptr e=>have:=all t _ a aUG;simp only[p9,No]at this;exact mh this.2
  | map k e z=>have:=all t _ a aUG;simp only[p9,No]at this;exact mh this.1.2
  | slice e sz b z=>have:=all t _ a aUG;simp only[p9,No]at this;exact mh this.1.1.1.2
 refine⟨λt sz fl z a m=>by
   have:=all t _ a aUG;simp only[p9,No,aRZ,aSb]at this;rcases this.1.1 with h | h
   ·rw[m]at h;cases h
   ·exact h,λt k a=>?_,λt a=>?_,λt a=>?_,λt e a=>?_,λt e sz b z a=>?_,λt k e z a=>?_,λt e sz b z a=>?_,one,zero,λt sz fl z a=>?_⟩
 ·have:=all t _ a aUG;simp only[p9,No]at this;have:=this.1;split at this
  ·rename_i C hu;rw[hu,nx this]
  ·cases this
 ·have:=all t _ a aUG;simp only[p9,No]at this;have:=this.1;split at this
  ·assumption
  ·cases this
 ·have:=all t _ a aUG;simp only[p9,No]at this;have:=this.1;split at this
  ·assumption
  ·cases this
 ·have:=all t _ a aUG;simp only[p9,No]at this;have:=this.1;split at this
  ·rename_i e' hu;rw[hu,amb this]
  ·cases this
 ·have:=all t _ a aUG;simp only[p9,No]at this;obtain⟨⟨⟨⟨h1,h2⟩,n⟩,G⟩,v⟩:=this;refine⟨?_,by simpa using n,?_⟩
  ·split at h1
   ·rename_i e' hu;rw[hu,amb h1]
   ·cases h1
  ·split at v
   ·rename_i i hi;simp only[No]at v;obtain⟨⟨q1,A⟩,r⟩:=v;split at r
    ·rename_i g m;simp only[No]at r;obtain⟨r1,o⟩:=xI _ _ r.2;have s:=amb r.1;refine⟨i,g,hi,amb q1,amb A,m,s,?_,λj u hj=>o j u aUV⟩;rw[<-r1,<-s];simp
    ·cases r
   ·cases v
 ·have:=all t _ a aUG;simp only[p9,No]at this;obtain⟨⟨h1,_⟩,n⟩:=this;refine⟨?_,?_⟩
  ·split at h1
   ·rename_i C e' hu;simp only[No]at h1;rw[hu,amb h1.1,amb h1.2]
   ·cases h1
  ·split at n
   ·rename_i i hi;split at n
    ·rename_i g m;exact⟨i,g,hi,m,Kh n⟩
    ·cases n
   ·cases n
 ·have:=all t _ a aUG;simp only[p9,No]at this;simpa using this.1.2
 ·have:=all t _ a aUG;simp only[p9,No]at this;obtain⟨⟨_,h1⟩,h2⟩:=this;split at h1
  ·rename_i fs hu;obtain⟨q1,A⟩:=yN _ _ h1;split at h2
   ·rename_i i hi;simp only[No]at h2;obtain⟨r1,o⟩:=h2;split at o
    ·rename_i g m;simp only[No]at o;obtain⟨D,s2⟩:=xI _ _ o.2;have s:=amb o.1;refine⟨fs,i,hu,hi,amb r1,by simpa using q1,⟨g,m,s,by rw[<-D,<-s];simp,λj u hj=>s2 j u aUV⟩,λk off size E F=>?_⟩;obtain⟨f,j,d,t1,t2⟩:=A k off size E F;exact⟨f,j,d,by simpa using t1,t2⟩
    ·cases o
   ·cases h2
  ·cases h1
theorem UI {S:Nat->Prop} {w:World} {k:IntKind} {a:Option Addr} {len cap:Nat} {c:List Int}
  (h:(a=none/\len=0/\cap=0/\c=[])\/∃x,a=some x/\len<=cap/\cap<=maxLen/\c.length=cap/\(∀i,i<c.length->w.cell? (x.add i)=some (.int k (c.getD i 0)))/\∀n∈c,(Lit.int k n).wf=true)
  (l:∀b,b<w.heap.size->S b):bh S w (.im 1 len (λi=>[.int k (c.getD i 0)])) (.slice a len cap):=by
 rcases h with⟨rfl,rfl,rfl,rfl⟩ | ⟨x,rfl,m,hm,q,g,o⟩
 ·exact .rZ _ _ _ _
 ·rcases aSq len with h0 | h0
  ·subst h0;exact .rZ _ _ _ _
  ·obtain⟨b,off,spot⟩:=x;have d:=g 0 aUE;have e:spot=none:=by simpa[Addr.add]using World.cell?_spot d
   subst e
   have p:b<w.heap.size:=by
    have:=World.block_lt_of_cell? _ _ d;simpa[Addr.add]using this
   refine .im 1 len _ b off cap (λi _=>.int k (c.getD i 0)) (l b p) (λ_ _=>rfl) m (λi j pv hi hj=>?_) (λi j pv hi hj=>?_)
   ·have f:j=0:=by
     have:=(abF.1 hj).1;simp at this;exact this
    subst f;have:=g i aUE;rw[Addr.add_lit]at this;rw[Nat.mul_one,aSo];exact this
   ·have f:j=0:=by
     have:=(abF.1 hj).1;simp at this;exact this
    subst f;simp at hj;subst hj;exact .int _ _
theorem ag1 {P:Program} {f:FuncId} {args:List PV} {vs:Array Value} {w:World} (d:RQ (λb=>b<w.heap.size) w) (h:ACall P f args [] (λres _=>res=.bool true)) (k:vs.size=args.length)
  (l:∀(j:Nat) (pv:PV),args[j]? =some pv->∃v,vs[j]? =some v/\bh (λb=>b<w.heap.size) w pv v):
  Calls P f vs w λe w'=>e=.returned (.bool true)/\Below w.heap.size w w':=by
 refine(h.2 w vs (λ_=>none) (λb=>b<w.heap.size) (λid g sz n e f hid=>by simp at hid) ⟨λb a=>absurd a mv,λb a=>absurd a mv,λb a=>a,λi j g sz n e f m p q e' r b o s hi=>by simp at hi,d,λb _ x y z hx=>AL hx,λb _ _ _ _ _ _ hx=>absurd hx AL⟩ k (λj pv hj=>?_)).mono ?_
 ·obtain⟨v,h1,h2⟩:=l j pv hj;refine⟨v,h1,?_⟩;have hc:db (λ_=>none) [] (λb=>b<w.heap.size) w pv v:=db.mu h2;cases pv with
  | agg cs=>exact(show False from hc).elim
  | gJ cs=>exact(show False from hc).elim
  | kB=>trivial
  | _=>exact hc
 ·rintro e w' ⟨v,res,h',μ',S',rfl,rfl,hv,t,u,c⟩;refine⟨by rw[hv.nZ],c.os,c.tape,c.output,c.size,λb a=>c.blocks b a mv⟩
section
variable {h η:List ao}{k:List Nat}
theorem Fz.int_eq {a:IntKind} {n b:Int} (he:n=b):Fz h η k (.int a n) (.int a b):=by subst he;exact .int _ _
theorem Fz.Tc {b a:Bool} (he:b=a):Fz h η k (.bool b) (.bool a):=by subst he;exact .bool _
theorem Fz.acQ {s s':List UInt8} (he:s=s'):Fz h η k (.str s) (.str s'):=by subst he;exact .str _
theorem Fz.acP {id g sz n off len c a:Nat} {e:TypeId} {f b:Nat->List PV} (d:id∉k) (ho:h[id]? =some (ao.row g sz n e f)) (h1:sz=c) (h2:len=a) (hp:∀i,i<a->(b i).all cP=true)
  (hf:∀i,i<a->wx h η k (f (off+i)) (b i)):Fz h η k (.own id g off len) (.im c a b):=by
 subst h1 h2;exact .frz id g sz n off len e f b d ho (λi hi=>(wx.get _ _ (hf i hi)).1) (λi j pv hi hj=>(aRg.1 (hp i hi)) pv (aRq hj)) (λi j pv l hi h1 h2 _=>(wx.get _ _ (hf i hi)).2 j pv l h1 h2)
theorem Fz.cr {cs a:List PV} (b:wx h η k cs a):Fz h η k (.agg cs) (.agg a):=.agg _ _ (wx.get _ _ b).1 (wx.get _ _ b).2
theorem Fz.vy {cs a:List PV} (b:wx h η k cs a):Fz h η k (.gJ cs) (.gJ a):=.gJ _ _ (wx.get _ _ b).1 (wx.get _ _ b).2
theorem acM {α:Type} {i l:Nat} {a b:α} (c:i<l):(bif Nat.blt i l then a else b)=a:=by
 have d:Nat.blt i l=true:=by simpa using c
 rw[d];rfl
theorem acN {α:Type} {i l:Nat} {a b:α} (d:l<=i):(bif Nat.blt i l then a else b)=b:=by
 have c:Nat.blt i l=false:=by
  cases hh:Nat.blt i l with
  | true=>
   have:i<l:=by simpa using hh
   omega
  | false=>rfl
 rw[c];rfl
end
theorem Ks {x:Int} (h1: -9223372036854775808<=x) (h2:x<=9223372036854775807):IntKind.i64.wrap x=x:=by rw[IntKind.wrap_i64];omega
theorem ACall.aFf {P:Program} {f:FuncId} {args a:List PV} {R:PV->List ao->Prop} (g:ACall P f a [] R) (h:List ao) (i:wx h [] [] args a) (k:a.all oc=true)
  (b:∀r0 h0,R r0 h0->Tb r0=true/\∀o∈h0,adt o):
  ACall P f args h (λres h'=>∃r0 h0,R r0 h0/\res=tm h.length r0/\h'=h++h0.map (ir h.length)):=by
 obtain⟨h1,h2⟩:=wx.get _ _ i;exact g.snap h h1 (λj pv c q1 d=>⟨h2 j pv c q1 d,(aRg.1 k) c (aRq d)⟩) (λr0 h0 e=>⟨(b r0 h0 e).1,λo ho=>((b r0 h0 e).2 o ho).p⟩)
theorem Fz.snap {h:List ao} {id g sz n off len c a:Nat} {e:TypeId} {f b:Nat->List PV} (ho:h[id]? =some (ao.row g sz n e f)) (h1:sz=c) (h2:len=a) (hp:∀i,i<a->(b i).all cP=true)
  (hf:∀i,i<a->wx h [] [] (f (off+i)) (b i)):Fz h [] [] (.own id g off len) (.im c a b):=.acP aUG ho h1 h2 hp hf
theorem ass {w:World} {k:IntKind} {a:Option Addr} {len cap:Nat} {b:List Int}
  (h:(a=none/\len=0/\cap=0/\b=[])\/∃x,a=some x/\len<=cap/\cap<=maxLen/\b.length=cap/\(∀i,i<b.length->w.cell? (x.add i)=some (.int k (b.getD i 0)))/\∀n∈b,(Lit.int k n).wf=true):
  ∀i,(Lit.int k (b.getD i 0)).wf=true:=by
 intro i;have h0:(Lit.int k 0).wf=true:=by cases k<;>decide
 rcases h with⟨_,_,_,rfl⟩ | ⟨x,_,_,_,_,_,c⟩
 ·simpa using h0
 ·rcases aSf i b.length with hi | hi
  ·rw[aRb,abL hi];exact c _ (aRr hi)
  ·rw[aRb,aRQ hi];exact h0
theorem ab7 {w:World} {a:Option Addr} {len cap:Nat} {b:List Int}
  (h:(a=none/\len=0/\cap=0/\b=[])\/∃x,a=some x/\len<=cap/\cap<=maxLen/\b.length=cap/\(∀i,i<b.length->w.cell? (x.add i)=some (.int .u8 (b.getD i 0)))/\∀n∈b,(Lit.int .u8 n).wf=true):
  ∀i,0<=b.getD i 0/\b.getD i 0<=255:=by
 intro i;have:=ass h i;have h2:IntKind.u8.min=0/\IntKind.u8.max=255:=by decide
 simp only[Lit.wf,No,aSx,h2.1,h2.2]at this;omega
theorem ACall.heq {P:Program} {f:FuncId} {args:List PV} {h h2:List ao} {R:PV->List ao->Prop} (q:ACall P f args h R) (he:fK h2 h):ACall P f args h2 R:=by
 refine⟨q.1,λw vs μ S r s t u=>?_⟩;obtain⟨d,i⟩:=he.core ⟨r,s⟩;refine(q.2 w vs μ S d i t (λj pv hj=>?_)).mono ?_
 ·obtain⟨v,h1,A⟩:=u j pv hj;exact⟨v,h1,he.af7 A⟩
 ·rintro e w' ⟨v,res,h',μ',S',rfl,B,hv,l,m,a⟩;refine⟨v,res,h',μ',S',rfl,B,hv,l,m,⟨by rw[he.len];exact a.len,λb c ho=>a.blocks b c (λhx=>ho (he.BH hx)),a.sub,λb c=>?_,λb c=>?_,a.size,a.os,a.tape,a.output,λid g sz n e f hid=>?_,λid hid=>a.dead id (he.getD hid),λb k ho hc=>a.dB b k (he.owned ho) hc,λid g sz n e f b base hid hm o=>?_,λb x y z hx o=>a.yK b x y z (he.hid hx) o⟩⟩
  ·rcases a.new b c with h1 | h1 | h1
   ·exact .inl h1
   ·exact .inr (.inl (he.BH h1))
   ·exact .inr (.inr h1)
  ·rcases a.own b c with h1 | h1
   ·exact .inl (he.BH h1)
   ·exact .inr h1
  ·obtain⟨p,h1,_⟩:=he.get hid;exact a.EO id g sz n e p h1
  ·obtain⟨p,h1,_⟩:=he.get hid;exact a.maps id g sz n e p b base h1 hm o
end Go.Am
