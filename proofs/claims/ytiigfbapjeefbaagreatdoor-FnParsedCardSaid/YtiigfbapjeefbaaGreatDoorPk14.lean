/- Texts of the proof, joined and shortened. -/
import Derived.Test.YtiigfbapjeefbaaGreatDoorPk13
set_option linter.unusedVariables false
set_option linter.unusedSimpArgs false
set_option maxRecDepth 100000
namespace Go.Am
open Go Go.RowKit Go.Proofs
theorem afM {n:ae} (hw:wt n<=134217728) (h:vE n=true):rY n.ah n.aE=true/\tU n.ah n.al=true/\gE vE vS n.ah n.af=true:=by
 rw[Hp hw,fE,No,No]at h;exact h
theorem afN {n:ae} (hw:wt n<=134217728) (h:vS n=true):rY n.ah n.aE=true/\tU n.ah n.al=true/\gS vE vS n.ah n.af=true:=by
 rw[Mh hw,fS,No,No]at h;exact h
inductive IE:Int->Int->av->List ae->Prop
 | num (m:Int) (t:av) (h0:0<=m) (h1:m<=1000000000):IE 1 m t []
 | txt (m:Int) (t:av) (h0:t.length<=400):IE 2 m t []
 | cst (m:Int) (t:av) (h0:0<=m) (h1:m<=2):IE 3 m t []
 | var (m:Int) (t:av):IE 4 m t []
 | arr (m:Int) (t:av) (ks:List ae) (h:ks.all (SA vE)=true):IE 5 m t ks
 | ix (m:Int) (t:av) (a b:ae) (ha:vE a=true) (hb:vE b=true):IE 7 m t [a,b]
 | fld (m:Int) (t:av) (a:ae) (ha:vE a=true):IE 8 m t [a]
 | un (m:Int) (t:av) (a:ae) (h0:1<=m) (h1:m<=2) (ha:vE a=true):IE 9 m t [a]
 | bin (m:Int) (t:av) (a b:ae) (h0:1<=m) (h1:m<=15) (ha:vE a=true) (hb:vE b=true):IE 10 m t [a,b]
 | and (m:Int) (t:av) (a b:ae) (ha:vE a=true) (hb:vE b=true):IE 11 m t [a,b]
 | or (m:Int) (t:av) (a b:ae) (ha:vE a=true) (hb:vE b=true):IE 12 m t [a,b]
 | O9 (m:Int) (t:av) (a b:ae) (ha:vE a=true) (hb:vE b=true):IE 13 m t [a,b]
 | cond (m:Int) (t:av) (a b c:ae) (ha:vE a=true) (hb:vE b=true) (hc:vE c=true):IE 14 m t [a,b,c]
 | asg (m:Int) (t:av) (a b:ae) (ha:vE a=true) (hb:vE b=true):IE 15 m t [a,b]
 | app (m:Int) (t:av) (a b:ae) (ha:vE a=true) (hb:vE b=true):IE 16 m t [a,b]
 | ref (m:Int) (t:av) (a:ae):IE 17 m t [a]
 | call (m:Int) (t:av) (ks:List ae) (h:ks.all vE=true):IE 18 m t ks
 | stat (m:Int) (t:av) (ks:List ae) (h:ks.all vE=true):IE 21 m t ks
 | new (m:Int) (t:av) (ks:List ae) (h:ks.all vE=true):IE 22 m t ks
 | dyn (m:Int) (t:av) (a:ae) (r:List ae) (ha:vE a=true) (h:r.all vE=true):IE 19 m t (a::r)
 | met (m:Int) (t:av) (a:ae) (r:List ae) (ha:vE a=true) (h:r.all vE=true):IE 20 m t (a::r)
 | qz (m:Int) (t:av) (l:List ae) (z:ae) (hu:CR true false l=true) (hk:z.ah=48) (hz:vS z=true):IE 23 m t (l++[z])
theorem aqX {x:ae} (h:bl vS x=true):x.ah=48/\vS x=true:=by
 rw[bl,No,aRi]at h;exact h
theorem Qt {a:Bool} {b:List ae} (h:fU vS a b=true):∃l z,b=l++[z]/\CR a false l=true/\z.ah=48/\vS z=true:=by
 rcases aSK b with rfl | ⟨l,z,rfl⟩
 ·cases h
 ·rw[aSL]at h ⊢;rw[fU,aTc,aTd]at h;have h':(CR a false l&&bl vS z)=true:=h;rw[No]at h';exact⟨l,z,rfl,h'.1,aqX h'.2⟩
theorem abR {n:ae} (hw:wt n<=134217728) (h:vE n=true):IE n.ah n.aE n.al n.af:=by
 obtain⟨h1,h2,e⟩:=afM hw h;generalize n.ah=k at*;generalize n.aE=m at*;generalize n.al=t at*;generalize n.af=y at*;by_cases J:1<=k/\k<=23
 ·rcases(by omega:k=1\/k=2\/k=3\/k=4\/k=5\/k=6\/k=7\/k=8\/k=9\/k=10\/k=11\/k=12\/k=13\/k=14\/k=15\/k=16\/k=17\/k=18\/k=19\/k=20\/k=21\/k=22\/k=23)with h | h | h | h | h | h | h | h | h | h | h | h | h | h | h | h | h | h | h | h | h | h | h<;>subst h<;>
   simp only[gE,rY,tU,nmK,aRM,aRN,Int.reduceEq,Int.reduceBEq,aRj,aRc,aRH,aSg,aSl,aRy,atX,aSY,or_true,true_or,false_or]at h1 h2 e
  all_goals first
   | exact .arr _ _ _ e
   | exact .call _ _ _ e
   | exact .stat _ _ _ e
   | exact .new _ _ _ e
   | (obtain⟨l,z,rfl,A,e2,B⟩:=Qt e;exact .qz _ _ l z A e2 B)
   | cases e;done
   | (
    rcases y with _ | ⟨a,_ | ⟨b,_ | ⟨c,_ | ⟨d,r⟩⟩⟩⟩<;>first
     | (cases e;done)
     | (
      simp at h1 h2 e
      first
       | exact .num _ _ h1.1 h1.2
       | exact .txt _ _ aUE
       | exact .cst _ _ h1.1 h1.2
       | exact .var _ _
       | exact .ix _ _ _ _ e.1 e.2
       | exact .fld _ _ _ e
       | exact .un _ _ _ h1.1 h1.2 e
       | exact .bin _ _ _ _ h1.1 h1.2 e.1 e.2
       | exact .and _ _ _ _ e.1 e.2
       | exact .or _ _ _ _ e.1 e.2
       | exact .O9 _ _ _ _ e.1 e.2
       | exact .cond _ _ _ _ _ e.1 e.2.1 e.2.2
       | exact .asg _ _ _ _ e.2.1 e.2.2
       | exact .app _ _ _ _ e.2.1 e.2.2
       | exact .ref _ _ _
       | exact .dyn _ _ _ _ e rfl
       | exact .met _ _ _ _ e rfl
       | exact .dyn _ _ _ _ e.1 (by simpa using e.2)
       | exact .met _ _ _ _ e.1 (by simpa using e.2)))
 ·exfalso;have h1:¬k=1:=by omega
  have h2:¬k=2:=by omega
  have e:¬k=3:=by omega
  have C:¬k=4:=by omega
  have D:¬k=5:=by omega
  have E:¬k=7:=by omega
  have F:¬k=8:=by omega
  have G:¬k=9:=by omega
  have H:¬k=10:=by omega
  have I:¬k=11:=by omega
  have f:¬k=12:=by omega
  have g:¬k=13:=by omega
  have i:¬k=14:=by omega
  have j:¬k=15:=by omega
  have o:¬k=16:=by omega
  have p:¬k=17:=by omega
  have q:¬k=18:=by omega
  have s:¬k=19:=by omega
  have u:¬k=20:=by omega
  have v:¬k=21:=by omega
  have w:¬k=22:=by omega
  have x:¬k=23:=by omega
  rename gE vE vS k y=true=>hg
  simp only[gE,aRM,aRN,aRc,aRH,atX,an.2 h1,an.2 h2,an.2 e,an.2 C,an.2 E,an.2 F,an.2 G,an.2 H,an.2 I,an.2 f,an.2 g,an.2 j,an.2 o,an.2 q,an.2 s,an.2 u,an.2 v,an.2 w,D,i,p,x]at hg
inductive IS:Int->Int->av->List ae->Prop
 | htm (m:Int) (t:av):IS 31 m t []
 | aqY (m:Int) (t:av) (a:ae) (ha:vE a=true):IS 32 m t [a]
 | expr (m:Int) (t:av) (a:ae) (ha:vE a=true):IS 33 m t [a]
 | thr (m:Int) (t:av) (a:ae) (ha:vE a=true):IS 42 m t [a]
 | brk (m:Int) (t:av):IS 37 m t []
 | cont (m:Int) (t:av):IS 38 m t []
 | afO (m:Int) (t:av):IS 39 m t []
 | aqZ (m:Int) (t:av) (a:ae) (ha:vE a=true):IS 39 m t [a]
 | glb (m:Int) (t:av):IS 40 m t []
 | uns (m:Int) (t:av) (a:ae) (ha:vE a=true):IS 41 m t [a]
 | if2 (m:Int) (t:av) (a b:ae) (ha:vE a=true) (hb:vS b=true) (kb:b.ah=48):IS 34 m t [a,b]
 | if3 (m:Int) (t:av) (a b c:ae) (ha:vE a=true) (hb:vS b=true) (kb:b.ah=48) (hc:vS c=true) (kc:c.ah=48):IS 34 m t [a,b,c]
 | whl (m:Int) (t:av) (a b:ae) (ha:vE a=true) (hb:vS b=true) (kb:b.ah=48):IS 35 m t [a,b]
 | fe3 (m:Int) (t:av) (a b c:ae) (ha:vE a=true) (hc:vS c=true) (kc:c.ah=48):IS 36 m t [a,b,c]
 | fe4 (m:Int) (t:av) (a b c d:ae) (ha:vE a=true) (hd:vS d=true) (kd:d.ah=48):IS 36 m t [a,b,c,d]
 | yl1 (m:Int) (t:av) (a:ae) (ha:vE a=true):IS 46 m t [a]
 | yl2 (m:Int) (t:av) (a b:ae) (ha:vE a=true) (hb:vE b=true):IS 46 m t [a,b]
 | inc (m:Int) (t:av) (h0:t.length<=400):IS 47 m t []
 | FK (m:Int) (t:av) (ks:List ae) (h:ks.all vS=true):IS 48 m t ks
 | Qu (m:Int) (t:av) (a b:ae) (ha:vS a=true) (ka:a.ah=48) (hb:cat vE vS b=true):IS 43 m t [a,b]
 | Qv (m:Int) (t:av) (a b:ae) (ha:vS a=true) (ka:a.ah=48) (hb:fin vS b=true):IS 43 m t [a,b]
 | Mk (m:Int) (t:av) (a b c:ae) (ha:vS a=true) (ka:a.ah=48) (hb:cat vE vS b=true) (hc:fin vS c=true):IS 43 m t [a,b,c]
 | cat (m:Int) (t:av) (a b:ae) (ha:vE a=true) (ka:a.ah=4) (hb:vS b=true) (kb:b.ah=48):IS 44 m t [a,b]
 | fin (m:Int) (t:av) (a:ae) (ha:vS a=true) (ka:a.ah=48):IS 45 m t [a]
theorem abS {n:ae} (hw:wt n<=134217728) (h:vS n=true):IS n.ah n.aE n.al n.af:=by
 obtain⟨h1,h2,f⟩:=afN hw h
 have C:31<=n.ah/\n.ah<=48:=by
  refine Classical.byContradiction λC=>?_;generalize n.ah=k at*;have g:¬k=31:=by omega
  have i:¬k=32:=by omega
  have j:¬k=33:=by omega
  have l:¬k=34:=by omega
  have o:¬k=35:=by omega
  have p:¬k=36:=by omega
  have q:¬k=37:=by omega
  have s:¬k=38:=by omega
  have u:¬k=39:=by omega
  have D:¬k=40:=by omega
  have v:¬k=41:=by omega
  have w:¬k=42:=by omega
  have x:¬k=43:=by omega
  have y:¬k=46:=by omega
  have z:¬k=47:=by omega
  have A:¬k=48:=by omega
  simp only[gS,aRM,aRN,aRc,aRH,atX,an.2 g,an.2 i,an.2 j,an.2 q,an.2 s,an.2 D,an.2 w,an.2 z,l,o,p,u,v,x,y,A]at f
 generalize n.ah=k at*;generalize n.aE=m at*;generalize n.al=t at*;generalize n.af=E at*
 rcases(by omega:k=31\/k=32\/k=33\/k=34\/k=35\/k=36\/k=37\/k=38\/k=39\/k=40\/k=41\/k=42\/k=43\/k=44\/k=45\/k=46\/k=47\/k=48)with h | h | h | h | h | h | h | h | h | h | h | h | h | h | h | h | h | h<;>subst h<;>
  simp only[gS,rY,tU,nmK,aRM,aRN,Int.reduceEq,Int.reduceBEq,aRj,aRc,aRH,aSg,aSl,aRy,atX,aSY,or_true,true_or,false_or]at h1 h2 f
 all_goals first
  | exact .FK _ _ _ f
  | cases f;done
  | (
   rcases E with _ | ⟨a,_ | ⟨b,_ | ⟨c,_ | ⟨d,_ | ⟨e,r⟩⟩⟩⟩⟩<;>first
    | (cases f;done)
    | (
     simp [bl]at h1 h2 f
     first
      | exact .htm _ _
      | exact .brk _ _
      | exact .cont _ _
      | exact .afO _ _
      | exact .glb _ _
      | exact .inc _ _ aUE
      | exact .aqY _ _ _ f
      | exact .expr _ _ _ f
      | exact .thr _ _ _ f
      | exact .aqZ _ _ _ f
      | exact .uns _ _ _ f.2
      | exact .yl1 _ _ _ f
      | exact .if2 _ _ _ _ f.1 f.2.2 f.2.1
      | exact .whl _ _ _ _ f.1 f.2.2 f.2.1
      | exact .if3 _ _ _ _ _ f.1 f.2.1.2 f.2.1.1 f.2.2.2 f.2.2.1
      | exact .fe3 _ _ _ _ _ f.1 f.2.2.2.2 f.2.2.2.1
      | exact .fe4 _ _ _ _ _ _ f.1 f.2.2.2.2.2.2 f.2.2.2.2.2.1
      | exact .yl2 _ _ _ _ f.1 f.2.1
      | (
       rcases f.2 with B | B
       ·exact .Qu _ _ _ _ f.1.2 f.1.1 B
       ·exact .Qv _ _ _ _ f.1.2 f.1.1 B)
      | exact .Mk _ _ _ _ _ f.1.2 f.1.1 f.2.1 f.2.2))
theorem afP {n:ae} (h:cat vE vS n=true):IS n.ah n.aE n.al n.af:=by
 unfold cat at h;generalize n.ah=k at*;generalize n.aE=m at*;generalize n.al=t at*;generalize n.af=d at*;rcases d with _ | ⟨a,_ | ⟨b,_ | ⟨c,r⟩⟩⟩<;>simp [bl]at h;obtain⟨h1,_,_,h2,e,f,g⟩:=h;subst h1;exact .cat _ _ _ _ e h2 g f
theorem afQ {n:ae} (h:fin vS n=true):IS n.ah n.aE n.al n.af:=by
 unfold fin at h;generalize n.ah=k at*;generalize n.aE=m at*;generalize n.al=t at*;generalize n.af=c at*;rcases c with _ | ⟨a,_ | ⟨b,r⟩⟩<;>simp [bl]at h;obtain⟨h1,_,_,d,e⟩:=h;subst h1;exact .fin _ _ _ e d
def vQ (x:ae):Bool:=vS x||(cat vE vS x||fin vS x)
theorem aq0 {n:ae} (hw:wt n<=134217728) (h:vQ n=true):IS n.ah n.aE n.al n.af:=by
 rw[vQ,aRZ,aRZ]at h;rcases h with h | h | h
 ·exact abS hw h
 ·exact afP h
 ·exact afQ h
theorem rq {x:ae} (h:vS x=true):vQ x=true:=by rw[vQ,h];rfl
theorem afR {x:ae} (h:cat vE vS x=true):vQ x=true:=by rw[vQ,h];simp
theorem afS {x:ae} (h:fin vS x=true):vQ x=true:=by rw[vQ,h];simp
def zn (m:Int):Int:=(eC m).getD 0
def abT (m:Int):av:=(fN m).getD []
def lvl (n:ae):Int:=
 if n.ah=15\/n.ah=16\/n.ah=17 then 1 else if n.ah=14 then 2 else if n.ah=13 then 3 else if n.ah=12 then 4 else if n.ah=11 then 5 else if n.ah=10 then zn n.aE
 else if n.ah=9 then 11 else 12
def Ku (k:Int):Bool->List ae->av
 | _,[]=>[]
 | f,x::r=>bif x.ah==k then(bif f then[]else[44,32])++(bif x.aE==1 then[38]else[])++[36]++x.al++Ku k false r else Ku k f r
def params (a:List ae) (k:Int):av:=[40]++Ku k true a++[41]
section
variable (X Y:ae->av)
def yn (n:ae) (k:Int):av:=if lvl n<k then[40]++X n++[41]else X n
def jn:Bool->List ae->av
 | _,[]=>[]
 | f,x::r=>(bif f then[]else[44,32])++yn X x 1++jn false r
def nX (a:List ae):av:=[40]++jn X true a++[41]
def pr1 (x:ae):av:=match x.af with
 | []=>[]
 | [a]=>yn X a 1
 | a::b::_=>yn X a 1++[32,61,62,32]++yn X b 1
def SO:Bool->List ae->av
 | _,[]=>[]
 | f,x::r=>(bif f then[]else[44,32])++pr1 X x++SO false r
def two (a:ae) (i:Int) (s:av) (b:ae) (j:Int):av:=yn X a i++s++yn X b j
def aq1 (m:Int):av:=if m=0 then[110,117,108,108]else if m=1 then[102,97,108,115,101]else[116,114,117,101]
def unW (m:Int):av:=if m=1 then[33]else[45]
inductive PX:Int->Int->av->List ae->av->Prop
 | num (m:Int) (t:av) (h0:0<=m) (h1:m<=1000000000):PX 1 m t [] (Lib.itoa m)
 | txt (m:Int) (t:av) (h0:t.length<=400):PX 2 m t [] (qt t)
 | cst (m:Int) (t:av) (h0:0<=m) (h1:m<=2):PX 3 m t [] (aq1 m)
 | var (m:Int) (t:av):PX 4 m t [] ([36]++t)
 | arr (m:Int) (t:av) (ks:List ae) (h:ks.all (SA vE)=true):PX 5 m t ks ([91]++SO X true ks++[93])
 | ix (m:Int) (t:av) (a b:ae) (ha:vE a=true) (hb:vE b=true):PX 7 m t [a,b] (two X a 12 [91] b 1++[93])
 | fld (m:Int) (t:av) (a:ae) (ha:vE a=true):PX 8 m t [a] (yn X a 12++[45,62]++t)
 | un (m:Int) (t:av) (a:ae) (h0:1<=m) (h1:m<=2) (ha:vE a=true):PX 9 m t [a] (unW m++yn X a 11)
 | bin (m:Int) (t:av) (a b:ae) (h0:1<=m) (h1:m<=15) (ha:vE a=true) (hb:vE b=true):PX 10 m t [a,b] (two X a (zn m) ([32]++abT m++[32]) b (zn m+1))
 | and (m:Int) (t:av) (a b:ae) (ha:vE a=true) (hb:vE b=true):PX 11 m t [a,b] (two X a 5 [32,38,38,32] b 6)
 | or (m:Int) (t:av) (a b:ae) (ha:vE a=true) (hb:vE b=true):PX 12 m t [a,b] (two X a 4 [32,124,124,32] b 5)
 | O9 (m:Int) (t:av) (a b:ae) (ha:vE a=true) (hb:vE b=true):PX 13 m t [a,b] (two X a 4 [32,63,63,32] b 3)
 | cond (m:Int) (t:av) (a b c:ae) (ha:vE a=true) (hb:vE b=true) (hc:vE c=true):PX 14 m t [a,b,c] (two X a 3 [32,63,32] b 1++[32,58,32]++yn X c 2)
 | asg (m:Int) (t:av) (a b:ae) (ha:vE a=true) (hb:vE b=true):PX 15 m t [a,b] (two X a 12 [32,61,32] b 1)
 | app (m:Int) (t:av) (a b:ae) (ha:vE a=true) (hb:vE b=true):PX 16 m t [a,b] (two X a 12 [91,93,32,61,32] b 1)
 | ref (m:Int) (t:av) (a:ae):PX 17 m t [a] ([36]++t++[32,61,32,38,36]++a.al)
 | call (m:Int) (t:av) (ks:List ae) (h:ks.all vE=true):PX 18 m t ks (t++nX X ks)
 | stat (m:Int) (t:av) (ks:List ae) (h:ks.all vE=true):PX 21 m t ks (t++nX X ks)
 | new (m:Int) (t:av) (ks:List ae) (h:ks.all vE=true):PX 22 m t ks ([110,101,119,32]++t++nX X ks)
 | aq2 (m:Int) (t:av) (a:ae) (r:List ae) (ha:vE a=true) (h:r.all vE=true) (h8:a.ah=8):PX 19 m t (a::r) ([40]++X a++[41]++nX X r)
 | dyn (m:Int) (t:av) (a:ae) (r:List ae) (ha:vE a=true) (h:r.all vE=true) (h8:¬a.ah=8):PX 19 m t (a::r) (yn X a 12++nX X r)
 | met (m:Int) (t:av) (a:ae) (r:List ae) (ha:vE a=true) (h:r.all vE=true):PX 20 m t (a::r) (yn X a 12++[45,62]++t++nX X r)
 | qz (m:Int) (t:av) (l:List ae) (z:ae) (hu:CR true false l=true) (Hq:¬∃x∈l,x.ah=25) (hk:z.ah=48) (hz:vS z=true):PX 23 m t (l++[z]) ([102,117,110,99,116,105,111,110,32]++params (l++[z]) 24++[32]++Y z)
 | afT (m:Int) (t:av) (l:List ae) (z:ae) (hu:CR true false l=true) (Hq:∃x∈l,x.ah=25) (hk:z.ah=48) (hz:vS z=true):PX 23 m t (l++[z]) ([102,117,110,99,116,105,111,110,32]++params (l++[z]) 24++[32,117,115,101,32]++params (l++[z]) 25++[32]++Y z)
inductive PS:Int->Int->av->List ae->av->Prop
 | htm (m:Int) (t:av):PS 31 m t [] ([63,62,10]++t++[60,63,32])
 | aqY (m:Int) (t:av) (a:ae) (ha:vE a=true):PS 32 m t [a] ([101,99,104,111,32]++yn X a 1++[59])
 | expr (m:Int) (t:av) (a:ae) (ha:vE a=true):PS 33 m t [a] (yn X a 1++[59])
 | thr (m:Int) (t:av) (a:ae) (ha:vE a=true):PS 42 m t [a] ([116,104,114,111,119,32]++yn X a 1++[59])
 | brk (m:Int) (t:av):PS 37 m t [] [98,114,101,97,107,59]
 | cont (m:Int) (t:av):PS 38 m t [] [99,111,110,116,105,110,117,101,59]
 | afO (m:Int) (t:av):PS 39 m t [] [114,101,116,117,114,110,59]
 | aqZ (m:Int) (t:av) (a:ae) (ha:vE a=true):PS 39 m t [a] ([114,101,116,117,114,110,32]++yn X a 1++[59])
 | glb (m:Int) (t:av):PS 40 m t [] ([103,108,111,98,97,108,32,36]++t++[59])
 | uns (m:Int) (t:av) (a:ae) (ha:vE a=true):PS 41 m t [a] ([117,110,115,101,116,40]++yn X a 12++[41,59])
 | if2 (m:Int) (t:av) (a b:ae) (ha:vE a=true) (hb:vS b=true) (kb:b.ah=48):PS 34 m t [a,b] ([105,102,32,40]++yn X a 1++[41,32]++Y b)
 | if3 (m:Int) (t:av) (a b c:ae) (ha:vE a=true) (hb:vS b=true) (kb:b.ah=48) (hc:vS c=true) (kc:c.ah=48):PS 34 m t [a,b,c] ([105,102,32,40]++yn X a 1++[41,32]++Y b++[32,101,108,115,101,32]++Y c)
 | whl (m:Int) (t:av) (a b:ae) (ha:vE a=true) (hb:vS b=true) (kb:b.ah=48):PS 35 m t [a,b] ([119,104,105,108,101,32,40]++yn X a 1++[41,32]++Y b)
 | fe3 (m:Int) (t:av) (a b c:ae) (ha:vE a=true) (hc:vS c=true) (kc:c.ah=48):PS 36 m t [a,b,c] ([102,111,114,101,97,99,104,32,40]++yn X a 1++[32,97,115,32,36]++b.al++[41,32]++Y c)
 | fe4 (m:Int) (t:av) (a b c d:ae) (ha:vE a=true) (hd:vS d=true) (kd:d.ah=48):PS 36 m t [a,b,c,d] ([102,111,114,101,97,99,104,32,40]++yn X a 1++[32,97,115,32,36]++b.al++[32,61,62,32,36]++c.al++[41,32]++Y d)
 | yl1 (m:Int) (t:av) (a:ae) (ha:vE a=true):PS 46 m t [a] ([121,105,101,108,100,32]++yn X a 1++[59])
 | yl2 (m:Int) (t:av) (a b:ae) (ha:vE a=true) (hb:vE b=true):PS 46 m t [a,b] ([36]++a.al++[32,61,32,121,105,101,108,100,32]++yn X b 1++[59])
 | inc (m:Int) (t:av) (h0:t.length<=400):PS 47 m t [] ([105,110,99,108,117,100,101,32]++qt t++[59])
 | FK (m:Int) (t:av) (ks:List ae) (h:ks.all vS=true):PS 48 m t ks ([123,32]++ks.flatMap (λx=>Y x++[32])++[125])
 | Qu (m:Int) (t:av) (a b:ae) (ha:vS a=true) (ka:a.ah=48) (hb:cat vE vS b=true):PS 43 m t [a,b] ([116,114,121,32]++Y a++Y b)
 | Qv (m:Int) (t:av) (a b:ae) (ha:vS a=true) (ka:a.ah=48) (hb:fin vS b=true):PS 43 m t [a,b] ([116,114,121,32]++Y a++Y b)
 | Mk (m:Int) (t:av) (a b c:ae) (ha:vS a=true) (ka:a.ah=48) (hb:cat vE vS b=true) (hc:fin vS c=true):PS 43 m t [a,b,c] ([116,114,121,32]++Y a++Y b++Y c)
 | cat (m:Int) (t:av) (a b:ae) (ha:vE a=true) (ka:a.ah=4) (hb:vS b=true) (kb:b.ah=48):PS 44 m t [a,b] ([32,99,97,116,99,104,32,40]++t++[32,36]++a.al++[41,32]++Y b)
 | fin (m:Int) (t:av) (a:ae) (ha:vS a=true) (ka:a.ah=48):PS 45 m t [a] ([32,102,105,110,97,108,108,121,32]++Y a)
theorem aCx {k m:Int} {t:av} {c:List ae} (h:IE k m t c):∃s,PX X Y k m t c s:=by
 cases h
 case dyn a r d h=>
  by_cases b:a.ah=8
  ·exact⟨_,.aq2 _ _ _ _ d h b⟩
  ·exact⟨_,.dyn _ _ _ _ d h b⟩
 case qz l z hu e f=>
  by_cases b:∃x∈l,x.ah=25
  ·exact⟨_,.afT _ _ _ _ hu b e f⟩
  ·exact⟨_,.qz _ _ _ _ hu b e f⟩
 all_goals exact⟨_,by constructor<;>assumption⟩
theorem aCy {k m:Int} {t:av} {d:List ae} (h:IS k m t d):∃s,PS X Y k m t d s:=by
 cases h
 case Qu a b c=>exact⟨_,.Qu _ _ _ _ a b c⟩
 case Qv a b c=>exact⟨_,.Qv _ _ _ _ a b c⟩
 all_goals exact⟨_,by constructor<;>assumption⟩
end
theorem Ml (m:Int) (h1:1<=m) (h2:m<=15):(abT m).length<=3:=by
 obtain⟨k,rfl⟩:∃k:Nat,m=(k:Int):=⟨m.toNat,by omega⟩;have a:k<=15:=by omega
 have b:1<=k:=by omega
 match k,a,b with
 | 1,_,_=>decide
 | 2,_,_=>decide
 | 3,_,_=>decide
 | 4,_,_=>decide
 | 5,_,_=>decide
 | 6,_,_=>decide
 | 7,_,_=>decide
 | 8,_,_=>decide
 | 9,_,_=>decide
 | 10,_,_=>decide
 | 11,_,_=>decide
 | 12,_,_=>decide
 | 13,_,_=>decide
 | 14,_,_=>decide
 | 15,_,_=>decide
 | 0,_,h=>omega
 | k+16,h,_=>omega
theorem abU (t:av):(qt t).length<=2*t.length+2:=by
 have:=En t;simp only[qt,It,so,An];omega
theorem aq3 (t:av):1<=(qt t).length:=by
 simp only[qt,It,so,An];omega
section
variable {X Y:ae->av}
theorem gr (n:ae) (k:Int):(yn X n k).length<=(X n).length+2:=by
 unfold yn;split
 ·simp only[It,so,An];omega
 ·omega
theorem abV (n:ae) (k:Int) (h:1<=(X n).length):1<=(yn X n k).length:=by
 unfold yn;split
 ·simp only[It,so,An];omega
 ·omega
def Bd (X:ae->av) (x:ae):Prop:=1<=(X x).length/\(X x).length+24<=536870912*sz x
theorem abW:∀(l:List ae) (f:Bool),(∀x∈l,Bd X x)->(jn X f l).length<=536870912*jT l
 | [],f,_=>by simp [jn]
 | x::r,f,h=>by
  have h1:=abW r false (λy hy=>h y aVr);have h2:=(h x aUG).2;have a:=gr (X:=X) x 1;rw[jn,jT];cases f<;>simp only[aRY,aRR,It,so,An]<;>omega
theorem xN (l:List ae) (h:∀x∈l,Bd X x):(nX X l).length<=536870912*jT l+2:=by
 have:=abW l true h;simp only[nX,It,so,An];omega
theorem aq4 (x:ae) (h:∀y∈x.af,Bd X y):(pr1 X x).length+20<=536870912*sz x:=by
 have hs:=jU x;unfold pr1;generalize x.af=c at*
 match c,h,hs with
 | [],_,_=>simp;omega
 | [a],h,hs=>
  have h2:=(h a aUG).2;have d:=gr (X:=X) a 1;simp only[jT]at hs;show(yn X a 1).length+20<=_;omega
 | a::b::r,h,hs=>
  have h2:=(h a aUG).2;have d:=gr (X:=X) a 1;have e:=(h b aUG).2;have f:=gr (X:=X) b 1;simp only[jT]at hs;show(yn X a 1++[32,61,62,32]++yn X b 1).length+20<=_;simp only[It,so,An];omega
theorem SP:∀(l:List ae) (f:Bool),(∀x∈l,∀y∈x.af,Bd X y)->(SO X f l).length<=536870912*jT l
 | [],f,_=>by simp [SO]
 | x::r,f,h=>by
  have h1:=SP r false (λy hy=>h y aVr);have h2:=aq4 x (h x aUG);rw[SO,jT];cases f<;>simp only[aRY,aRR,It,so,An]<;>omega
theorem JE (k:Int):∀(l:List ae) (f:Bool),(∀x∈l,x.al.length<=134217728)->(Ku k f l).length<=134217736*jT l
 | [],f,_=>by simp [Ku]
 | x::r,f,h=>by
  have h0:=JE k r f (λy hy=>h y aVr);have h1:=JE k r false (λy hy=>h y aVr);have h2:=h x aUG;have a:=rm x;rw[Ku,jT];cases(x.ah==k)
  ·simp only[aRR];omega
  ·cases f<;>cases(x.aE==1)<;>simp only[aRY,aRR,It,so,An]<;>omega
theorem Ex (k:Int) (z:ae) (a:(z.ah==k)=false):∀(l:List ae) (f:Bool),Ku k f (l++[z])=Ku k f l
 | [],f=>by simp [Ku,a]
 | x::r,f=>by
  rw[aRw,Ku,Ku,Ex k z a r,Ex k z a r]
theorem C9:∀(l:List ae) (z:ae),jT (l++[z])=jT l+sz z
 | [],z=>by simp [jT]
 | x::r,z=>by rw[aRw,jT,jT,C9 r z];omega
theorem uX (k:Int) (l:List ae) (z:ae) (a:(z.ah==k)=false) (h:∀x∈l,x.al.length<=134217728):(params (l++[z]) k).length<=134217736*jT l+2:=by
 have:=JE k l true h;rw[params,Ex k z a];simp only[It,so,An];omega
theorem Hr:∀(l:List ae),(∀x∈l,Bd Y x)->(l.flatMap (λx=>Y x++[32])).length<=536870912*jT l
 | [],_=>by simp
 | x::r,h=>by
  have h1:=Hr r (λy hy=>h y aVr);have h2:=(h x aUG).2;rw[aSm,jT];simp only[It,so,An];omega
theorem ji {l:List ae} {P:ae->Bool} (h:l.all P=true):∀x∈l,P x=true:=by simpa using h
theorem aq5 {k m:Int} {t:av} {g:List ae} {s:av} (h:PX X Y k m t g s) (F:t.length<=134217728) (j:∀x∈g,x.al.length<=134217728)
  (d:∀x∈g,vE x=true->Bd X x) (o:∀x∈g,∀y∈x.af,vE y=true->Bd X y) (w:∀x∈g,vQ x=true->Bd Y x):1<=s.length/\s.length+24<=536870912*(1+jT g):=by
 cases h
 case num h0 h1=>have:=abl m h0 h1;omega
 case txt h0=>have:=abU t;have:=aq3 t;omega
 case cst h0 h1=>
  unfold aq1;by_cases q:m=0
  ·simp [q];omega
  ·by_cases A:m=1<;>simp [q,A]<;>omega
 case var=>simp;omega
 case arr h=>
  have h1:=SP (X:=X) g true (λx hx y hy=>by
   have f:=ji h x hx;simp only[SA,No]at f;exact o x hx y hy (ji f.2.2.2.2 y hy))
  simp only[It,so,An];omega
 case ref a=>
  have h1:=j a aUG;have:=rm a;simp only[jT,It,so,An];omega
 case call h=>
  have h1:=xN (X:=X) g (λx hx=>d x hx (ji h x hx));have h2:1<=(nX X g).length:=by simp [nX]
  simp only[It,so,An];omega
 case stat h=>
  have h1:=xN (X:=X) g (λx hx=>d x hx (ji h x hx));have h2:1<=(nX X g).length:=by simp [nX]
  simp only[It,so,An];omega
 case new h=>
  have h1:=xN (X:=X) g (λx hx=>d x hx (ji h x hx));simp only[It,so,An];omega
 case aq2 a r e h B=>
  have h1:=xN (X:=X) r (λx hx=>d x aVm (ji h x hx));have h2:=d a aUG e;unfold Bd at h2;simp only[jT,It,so,An];omega
 case dyn a r e h B=>
  have h1:=xN (X:=X) r (λx hx=>d x aVm (ji h x hx));have h2:=d a aUG e;have f:=gr (X:=X) a 12;have p:=abV a 12 h2.1;unfold Bd at h2;simp only[jT,It,so,An];omega
 case met a r e h=>
  have h1:=xN (X:=X) r (λx hx=>d x aVm (ji h x hx));have h2:=d a aUG e;have f:=gr (X:=X) a 12;unfold Bd at h2;simp only[jT,It,so,An];omega
 case qz l z hu C n u=>
  have h1:=uX 24 l z (by rw[n];rfl) (λx hx=>j x aVm);have h2:=w z aUG (rq u);unfold Bd at h2;rw[C9];simp only[It,so,An];omega
 case afT l z hu C n u=>
  have h1:=uX 24 l z (by rw[n];rfl) (λx hx=>j x aVm);have f:=uX 25 l z (by rw[n];rfl) (λx hx=>j x aVm);have h2:=w z aUG (rq u);unfold Bd at h2;rw[C9];simp only[It,so,An];omega
 case un a e h0 h1=>
  have h2:=d a aUG e;have f:=gr (X:=X) a 11;have p:=abV a 11 h2.1;have v:(unW m).length=1:=by unfold unW;split<;>rfl
  unfold Bd at h2;simp only[jT,It,v];omega
 case fld a e=>
  have h2:=d a aUG e;have f:=gr (X:=X) a 12;unfold Bd at h2;simp only[jT,It,so,An];omega
 case bin a b e i h0 h1=>
  have h2:=d a aUG e;have f:=d b aUG i;have p:=gr (X:=X) a (zn m);have v:=gr (X:=X) b (zn m+1);have D:=Ml m h0 h1;unfold Bd at h2 f;simp only[two,jT,It,so,An];omega
 case cond a b c e i hc=>
  have h2:=d a aUG e;have f:=d b aUG i;have E:=d c aUG hc;have p:=gr (X:=X) a 3;have v:=gr (X:=X) b 1;have D:=gr (X:=X) c 2;unfold Bd at h2 f E;simp only[two,jT,It,so,An];omega
 all_goals
  rename_i a b e i;have h2:=d a aUG e;have f:=d b aUG i;have G:=gr (X:=X) a 4;have g2:=gr (X:=X) a 5;have H:=gr (X:=X) a 12;have I:=gr (X:=X) b 1;have J:=gr (X:=X) b 3;have K:=gr (X:=X) b 5;have L:=gr (X:=X) b 6;unfold Bd at h2 f;simp only[two,jT,It,so,An];omega
theorem aq6 {k m:Int} {t:av} {n:List ae} {s:av} (h:PS X Y k m t n s) (w:t.length<=134217728) (p:∀x∈n,x.al.length<=134217728)
  (j:∀x∈n,vE x=true->Bd X x) (g:∀x∈n,vQ x=true->Bd Y x):1<=s.length/\s.length+24<=536870912*(1+jT n):=by
 cases h
 case FK h=>
  have h1:=Hr (Y:=Y) n (λx hx=>g x hx (rq (ji h x hx)));simp only[It,so,An];omega
 case inc h0=>
  have:=abU t;simp only[jT,It,so,An];omega
 case if2 a b e i r=>
  have h2:=j a aUG e;have f:=g b aUG (rq i);have o:=gr (X:=X) a 1;unfold Bd at h2 f;simp only[jT,It,so,An];omega
 case if3 a b c e i r hc u=>
  have h2:=j a aUG e;have f:=g b aUG (rq i);have l:=g c aUG (rq hc);have o:=gr (X:=X) a 1;unfold Bd at h2 f l;simp only[jT,It,so,An];omega
 case whl a b e i r=>
  have h2:=j a aUG e;have f:=g b aUG (rq i);have o:=gr (X:=X) a 1;unfold Bd at h2 f;simp only[jT,It,so,An];omega
 case fe3 a b c e hc u=>
  have h2:=j a aUG e;have f:=g c aUG (rq hc);have l:=p b aUG;have v:=rm b;have o:=gr (X:=X) a 1;unfold Bd at h2 f;simp only[jT,It,so,An];omega
 case fe4 a b c d e hd kd=>
  have h2:=j a aUG e;have f:=g d aUG (rq hd);have l:=p b aUG;have v:=rm b;have y:=p c aUG;have z:=rm c;have o:=gr (X:=X) a 1;unfold Bd at h2 f;simp only[jT,It,so,An];omega
 case yl2 a b e i=>
  have h2:=j a aUG e;have f:=j b aUG i;have l:=p a aUG;have o:=gr (X:=X) b 1;unfold Bd at h2 f;simp only[jT,It,so,An];omega
 case Qu a b e q i=>
  have h2:=g a aUG (rq e);have f:=g b aUG (afR i);unfold Bd at h2 f;simp only[jT,It,so,An];omega
 case Qv a b e q i=>
  have h2:=g a aUG (rq e);have f:=g b aUG (afS i);unfold Bd at h2 f;simp only[jT,It,so,An];omega
 case Mk a b c e q i hc=>
  have h2:=g a aUG (rq e);have f:=g b aUG (afR i);have l:=g c aUG (afS hc);unfold Bd at h2 f l;simp only[jT,It,so,An];omega
 case cat a b e q i r=>
  have h2:=j a aUG e;have f:=g b aUG (rq i);have l:=p a aUG;unfold Bd at h2 f;simp only[jT,It,so,An];omega
 case fin a e q=>
  have h2:=g a aUG (rq e);unfold Bd at h2;simp only[jT,It,so,An];omega
 case htm=>simp only[jT,It,so,An];omega
 case glb=>simp only[jT,It,so,An];omega
 case brk=>simp [jT]
 case cont=>simp [jT]
 case afO=>simp [jT]
 all_goals
  rename_i a e;have h2:=j a aUG e;have o:=gr (X:=X) a 1;have A:=gr (X:=X) a 12;unfold Bd at h2;simp only[jT,It,so,An];omega
end
theorem da {a b:av} (h:a.length+b.length<=4611686018427387904):bx a b=some (a++b):=At h
theorem aCz (n:ae):nJ n=some (lvl n):=by
 unfold nJ lvl;generalize n.ah=k
 have d:eC n.aE=some (zn n.aE):=by
  unfold zn eC
  repeat' split
  all_goals rfl
 rw[d];by_cases e:k=15
 ·subst e;rfl
 by_cases f:k=16
 ·subst f;rfl
 by_cases g:k=17
 ·subst g;rfl
 by_cases a:k=14
 ·subst a;rfl
 by_cases b:k=13
 ·subst b;rfl
 by_cases c:k=12
 ·subst c;rfl
 by_cases h:k=11
 ·subst h;rfl
 by_cases d:k=10
 ·subst d;rfl
 by_cases i:k=9
 ·subst i;rfl
 rw[As e,As f,As (show ¬(k=15\/k=16\/k=17) by omega),an.2 g,sb];rw[As aUF,As a,As a,As b,As b,As c,As c,As h,As h,As d,As d,As i,As i]
section
variable {X Y:ae->av}
def OX (X:ae->av) (x:ae):Prop:=gQ x=some (X x)/\(X x).length<=1099511627776
def OY (Y:ae->av) (x:ae):Prop:=cA x=some (Y x)/\(Y x).length<=1099511627776
theorem xg {x:ae} (h:OX X x) (k:Int):dq x k=some (yn X x k):=by
 obtain⟨h1,h2⟩:=h;rw[dq,aCz,sb,h1,sb,sb,da aUQ,sb,da aUO,sb,yn];split<;>rfl
theorem aCA (a:List ae) (c:Nat) (h:∀x∈a.drop c,OX X x) (j:a.length<=134217728):∀(f i:Nat) (s:av),a.length<=i+f->c<=i->s.length+(jn X (decide (i=c)) (a.drop i)).length<=1099511627776->
  iW a (c:Int) s (i:Int)=some (s++jn X (decide (i=c)) (a.drop i))
 | f,i,s,hf,hc,b=>by
  rw[iW];by_cases hi:i<a.length
  ·obtain⟨g,rfl⟩:∃g,f=g+1:=⟨f - 1,by omega⟩;have hd:=aRl hi
   have hx:OX X a[i]:=h _ (by
    rw[show a.drop c=(a.drop c)from rfl];exact aSG.2 ⟨i - c,by simp;omega,by simp [show c+(i - c)=i by omega]⟩)
   have d:decide (i+1=c)=false:=aRA aUE
   have e:∀u:av,u.length+(jn X false (a.drop (i+1))).length<=1099511627776->iW a (c:Int) u ((i+1:Nat):Int)=some (u++jn X false (a.drop (i+1))):=λu k=>by
    rw[aCA a c h j g (i+1) u aUE aUE (by rw[d];exact k),d]
   rw[hd,jn]at b;rw[At aUE,dj hi,ca aUE,hd,jn];by_cases he:i=c
   ·rw[aSa he]at b ⊢;simp only[aRY,It,so,An]at b;rw[As aUE];simp (disch:=first | omega | (simp only[It,so,An];omega)) only[da,sb,xg hx,e,aRY,aRm,aRe,aRw]
   ·rw[aRA he]at b ⊢;simp only[aRR,It,so,An]at b;rw[At aUE];simp (disch:=first | omega | (simp only[It,so,An];omega)) only[da,sb,xg hx,e,aRR,aRm,aRe,aRw]
  ·rw[As aUE,aRd aUE];simp [jn]
theorem abX (a:List ae) (c:Nat) (h:∀x∈a.drop c,OX X x) (d:a.length<=134217728) (b:(nX X (a.drop c)).length<=1099511627776):iF a (c:Int)=some (nX X (a.drop c)):=by
 have e:=b;simp only[nX,It,so,An]at b;have h0:=aCA a c h d a.length c [] aUE aUE aUP;rw[aSa rfl]at h0;rw[iF,h0,sb,aRe,da aUQ,sb,da aUO];rfl
theorem abY (a:List ae) (k:Int) (e:a.length<=134217728):∀(f i:Nat) (s:av),a.length<=i+f->s.length+(Ku k (s==([]:av)) (a.drop i)).length<=1099511627776->
  fC a k s (i:Int)=some (s++Ku k (s==([]:av)) (a.drop i))
 | f,i,s,hf,b=>by
  rw[fC];by_cases hi:i<a.length
  ·obtain⟨g,rfl⟩:∃g,f=g+1:=⟨f - 1,by omega⟩;have hd:=aRl hi;rw[hd,Ku]at b;rw[At aUE,dj hi,sb,ca aUE,hd,Ku];generalize a[i]=x at b;by_cases c:x.ah=k
   ·rw[At c,c,aSI,aRY];rw[c,aSI,aRY]at b
    have j:∀u:av,u≠[]->u.length+(Ku k false (a.drop (i+1))).length<=1099511627776->fC a k u ((i+1:Nat):Int)=some (u++Ku k false (a.drop (i+1))):=λu hu l=>by
     have h:(u==([]:av))=false:=an.2 hu;rw[abY a k e g (i+1) u aUE (by rw[h];exact l),h]
    by_cases hs:s=([]:av)<;>by_cases d:x.aE=1
    all_goals
     first | rw[hs]at b ⊢ | skip
     first | rw[At rfl] | rw[As hs]
     first | rw[d]at b ⊢ | rw[an.2 d]at b ⊢
     first | rw[show(([]:av)==([]:av))=true from rfl]at b ⊢ | rw[an.2 hs]at b ⊢
     simp only[aRY,aRR,aSI,It,so,An]at b;simp (disch:=first | omega | (simp only[It,so,An];omega) | simp) only[da,sb,j,d,aRj,aRc,aRY,aRR,aSI,aRm,aRe,aRw]
   ·rw[As c,an.2 c,aRR];rw[an.2 c,aRR]at b;exact abY a k e g (i+1) s aUE b
  ·rw[As aUE,aRd aUE];simp [Ku]
theorem Ey (a:List ae) (k:Int) (c:a.length<=134217728) (b:(params a k).length<=1099511627776):jL a k=some (params a k):=by
 have h0:=abY a k c a.length 0 [] aUE (by rw[aRk];simp only[params,It,so,An]at b;rw[show(([]:av)==([]:av))=true from rfl];simp only[An];omega);rw[show((0:Nat):Int)=0 from rfl,aRk,aRe,show(([]:av)==([]:av))=true from rfl]at h0;simp only[params,It,so,An]at b;unfold jL;rw[h0];simp (disch:=first | omega | (simp only[It,so,An];omega)) only[da,sb,params]
theorem ako (n:ae) (h:∀x∈n.af,∀y∈x.af,OX X y) (hp:∀x∈n.af,1<=(x.af.length:Int)/\(x.af.length:Int)<=2) (o:n.af.length<=134217728):∀(f i:Nat) (s:av),n.af.length<=i+f->s.length+(SO X (decide (i=0)) (n.af.drop i)).length<=1099511627776->
  gT n s (i:Int)=some (s++SO X (decide (i=0)) (n.af.drop i))
 | f,i,s,hf,d=>by
  rw[gT];by_cases hi:i<n.af.length
  ·obtain⟨g,rfl⟩:∃g,f=g+1:=⟨f - 1,by omega⟩;have hd:=aRl hi;have hx:=h _ (aRr hi);have I4:=hp _ (aRr hi);have l:decide (i+1=0)=false:=aRA aUE
   have j:∀u:av,u.length+(SO X false (n.af.drop (i+1))).length<=1099511627776->gT n u ((i+1:Nat):Int)=some (u++SO X false (n.af.drop (i+1))):=λu p=>by
    rw[ako n h hp o g (i+1) u aUE (by rw[l];exact p),l]
   rw[hd,SO,pr1]at d;rw[At aUE,dj hi,ca aUE,hd,SO,pr1];generalize n.af[i]=x at*;generalize k:x.af=q at*;rcases q with _ | ⟨a,_ | ⟨b,_ | ⟨c,r⟩⟩⟩
   ·simp at I4
   ·have e:=hx a aUG;by_cases he:i=0
    ·rw[aSa he]at d ⊢;simp only[aRY,It,so,An]at d;rw[As aUE];simp (disch:=first | omega | (simp only[It,so,An];omega)) only[da,sb,xg e,eG,k,j,aRY,aRm,aRe,aRw,so,An];rw[As aUF]
    ·rw[aRA he]at d ⊢;simp only[aRR,It,so,An]at d;rw[At aUE];simp (disch:=first | omega | (simp only[It,so,An];omega)) only[da,sb,xg e,eG,k,j,aRR,aRm,aRe,aRw,so,An];rw[As aUF]
   ·have e:=hx a aUG;have m:=hx b aUG;by_cases he:i=0
    ·rw[aSa he]at d ⊢;simp only[aRY,It,so,An]at d;rw[As aUE];simp (disch:=first | omega | (simp only[It,so,An];omega)) only[da,sb,xg e,xg m,eG,pR,k,j,aRY,aRm,aRe,aRw,so,An];rw[At aUF]
    ·rw[aRA he]at d ⊢;simp only[aRR,It,so,An]at d;rw[At aUE];simp (disch:=first | omega | (simp only[It,so,An];omega)) only[da,sb,xg e,xg m,eG,pR,k,j,aRR,aRm,aRe,aRw,so,An];rw[At aUF]
   ·simp at I4;omega
  ·rw[As aUE,aRd aUE];simp [SO]
def nY (Y:ae->av) (l:List ae):av:=l.flatMap λx=>bif x.ah==52 then[]else Y x++[32]
theorem abZ (l:List ae) (h:∀x∈l,¬x.ah=52->OY Y x) (d:l.length<=134217728):∀(f i:Nat) (s:av),l.length<=i+f->s.length+(nY Y (l.drop i)).length<=1099511627776->
  iX l s (i:Int)=some (s++nY Y (l.drop i))
 | f,i,s,hf,a=>by
  rw[iX];by_cases hi:i<l.length
  ·obtain⟨g,rfl⟩:∃g,f=g+1:=⟨f - 1,by omega⟩;have hd:=aRl hi;have hx:=h _ (aRr hi);have c:∀u:av,u.length+(nY Y (l.drop (i+1))).length<=1099511627776->iX l u ((i+1:Nat):Int)=some (u++nY Y (l.drop (i+1))):=λu e=>abZ l h d g (i+1) u aUE e;rw[hd,nY,aSm]at a;change s.length+((bif l[i].ah==52 then[]else Y l[i]++[32])++nY Y (l.drop (i+1))).length<=_ at a
   rw[At aUE,dj hi,ca aUE,hd,nY,aSm];change _=some (s++((bif l[i].ah==52 then[]else Y l[i]++[32])++nY Y (l.drop (i+1))))
   generalize l[i]=x at*;by_cases b:x.ah=52
   ·rw[b]at a ⊢;simp only[aSI,aRY,aRe]at a ⊢;rw[sb,At b,c s a]
   ·rw[an.2 b]at a ⊢;simp only[aRR,It,so,An]at a;rw[sb,As b];simp (disch:=first | omega | (simp only[It,so,An];omega)) only[da,sb,(hx b).1,c,aRR,aRm,aRe,aRw]
  ·rw[As aUE,aRd aUE];simp [nY]
theorem ab0 (l:List ae) (h:∀x∈l,¬x.ah=52):nY Y l=l.flatMap λx=>Y x++[32]:=by
 induction l with
 | nil=>rfl
 | cons x r a=>
  have:=a (λy hy=>h y aVr);rw[nY]at this ⊢;rw[aSm,aSm,this,an.2 (h x aUG)];rfl
end
theorem aq7 (m:Int):eC m=some (zn m)/\6<=zn m/\zn m<=10:=by
 unfold zn eC
 repeat' split
 all_goals exact⟨rfl,by decide,by decide⟩
theorem aq8 (m:Int) (h1:1<=m) (h2:m<=15):fN m=some (abT m):=by
 obtain⟨s,e,_⟩:=sOp m h1 h2;rw[abT,e];rfl
theorem aCB (m:Int) (h1:0<=m) (h2:m<=2):oM ([[110,117,108,108],[102,97,108,115,101],[116,114,117,101]]:List av) m=some (aq1 m):=by
 rcases(by omega:m=0\/m=1\/m=2)with h | h | h<;>subst h<;>rfl
theorem aLs (m:Int) (h1:1<=m) (h2:m<=2):oM ([[],[33],[45]]:List av) m=some (unW m):=by
 rcases(by omega:m=1\/m=2)with h | h<;>subst h<;>rfl
theorem Mm (a:Bool):∀(l:List ae) (b:Bool),CR a b l=true->(b=true\/∃x∈l,x.ah=25)->l≠[]->∃d w,l=d++[w]/\w.ah=25
 | [],b,_,_,h=>absurd rfl h
 | [x],b,hu,he,_=>by
  refine⟨[],x,rfl,?_⟩;simp only[CR,No,aRZ,aRi]at hu;rcases hu.1 with h | h
  ·exact h.1
  ·rcases he with q | ⟨y,q1,c⟩
   ·simp [q]at h
   ·simp at q1;subst q1;exact c
 | x::y::r,b,hu,he,_=>by
  rw[CR]at hu;simp only[No]at hu
  obtain⟨d,w,h1,h2⟩:=Mm a (y::r) _ hu.2.2.2.2 (by
   rcases he with q | ⟨z,q1,c⟩
   ·left;simp [q]
   ·rcases aRo.1 q1 with e | e
    ·left;rw[<-e,c];simp
    ·right;exact⟨z,e,c⟩) aUG
  exact⟨x::d,w,by rw[h1];rfl,h2⟩
section
variable {X Y:ae->av}
theorem aCC (n a b:ae) (r:List ae) (i:Int) (s:av) (j:Int) (c:n.af=a::b::r) (d:OX X a) (e:OX X b) (f:(two X a i s b j).length<=1099511627776):il n i s j=some (two X a i s b j):=by
 simp only[two,It]at f;rw[il,c];simp (disch:=first | omega | (simp only[It,so,An];omega)) only[eG,pR,sb,xg d,xg e,da,two]
set_option maxHeartbeats 4000000 in
theorem afU (n:ae) {s:av} (h:PX X Y n.ah n.aE n.al n.af s) (hw:wt n<=134217728) (hs:s.length<=1099511627776)
  (g:∀x∈n.af,vE x=true->OX X x) (B:∀x∈n.af,∀y∈x.af,vE y=true->OX X y) (K:∀x∈n.af,vQ x=true->OY Y x):gQ n=some s:=by
 have o:=(Ez hw).2;have C:∀a b r i s j,n.af=a::b::r->OX X a->OX X b->(two X a i s b j).length<=1099511627776->il n i s j=some (two X a i s b j):=λa b r i s j=>aCC n a b r i s j
 have hL:n.af.all (SA vE)=true->(SO X true n.af).length<=1099511627776->gT n [] 0=some (SO X true n.af):=λh1 h2=>by
  have:=ako n (X:=X) (λx hx y hy=>by
   have D:=ji h1 x hx;simp only[SA,No]at D;exact B x hx y hy (ji D.2.2.2.2 y hy)) (λx hx=>by
   have D:=ji h1 x hx;simp only[SA,No]at D;exact of_decide_eq_true D.2.2.2.1) o n.af.length 0 [] aUE (by rw[aRk];simpa using h2)
  rw[show((0:Nat):Int)=0 from rfl,aRk]at this;exact this
 rw[gQ]
 have L:∀f:List ae,f.length<=134217728->(∀x∈f,OX X x)->(nX X f).length<=1099511627776->iF f 0=some (nX X f):=λf o h p=>by
  have:=abX (X:=X) f 0 h o p;exact this
 have E:∀(a:ae) (f:List ae),(a::f).length<=134217728->(∀x∈f,OX X x)->(nX X f).length<=1099511627776->iF (a::f) 1=some (nX X f):=λa f o h p=>by
  have:=abX (X:=X) (a::f) 1 h o p;exact this
 generalize n.af=f at*;generalize n.al=t at*;generalize n.aE=m at*;generalize n.ah=k at*;cases h
 case num h0 h1=>rw[At rfl,aqn m aUE aUE];rfl
 case txt h0=>rw[As aUF,At rfl,sQ t aUE];rfl
 case cst h0 h1=>rw[As aUF,As aUF,At rfl,aCB m h0 h1];rfl
 all_goals try simp only[It,so,An]at hs
 case' call h | stat h | new h=>have e:=L f o (λx hx=>g x hx (ji h x hx)) aUE
 case' arr h=>rw[hL h aUE]
 case' aq2 a r d h N | dyn a r d h N | met a r d h=>
  have e:=E a r o (λx hx=>g x aVm (ji h x hx)) aUE;have v:=(g a aUG d).1;have e2:=xg (g a aUG d) 12
 case' qz l z hu I O M | afT l z hu I O M=>
  have e:=Ey (l++[z]) 24 o aUE;have e2:=(K z aUG (rq M)).1;have v:bq (((l++[z]).length:Int) - 1)=(l.length:Int):=kj aUG (by simp at o;omega)
 case qz=>
  rcases aSK l with u | ⟨F,w,u⟩
  ·subst u;rw[aRe]at*;simp only[An]at v;simp (disch:=first | omega | (simp only[It,so,An];omega)) only[Int.reduceEq,aRj,aRc,sb,da,e,v];rw[As (show ¬(([z]:List ae).length:Int)>1 by simp)];simp (disch:=first | omega | (simp only[It,so,An];omega)) only[sb,da,show(((0:Nat):Int))=0 from rfl,eG,e2]
  ·rw[aSL]at u;have G:bq (((l++[z]).length:Int) - 2)=(F.length:Int):=kj (by rw[u];simp<;>omega) (by rw[u]at o;simp at o;omega);have A:idx (l++[z]) (F.length:Int)=some w:=by rw[u,dj (by simp<;>omega)];simp
   have H:¬w.ah=25:=λq=>I ⟨w,by rw[u];simp,q⟩;have J:((l++[z]).length:Int)>1:=by rw[u];simp<;>omega
   simp (disch:=first | omega | (simp only[It,so,An];omega)) only[Int.reduceEq,aRj,aRc,sb,da,e,v,G,A,H,tW,e2];rw[At J];rfl
 case afT=>
  have P:=Ey (l++[z]) 25 o aUE;obtain⟨F,w,u,H⟩:=Mm true l false hu (.inr I) (by obtain⟨x,q,_⟩:=I;intro Q;rw[Q]at q;cases q);have G:bq (((l++[z]).length:Int) - 2)=(F.length:Int):=kj (by rw[u];simp<;>omega) (by rw[u]at o;simp at o;omega);have A:idx (l++[z]) (F.length:Int)=some w:=by rw[u,dj (by simp<;>omega)];simp
  have J:((l++[z]).length:Int)>1:=by rw[u];simp<;>omega
  simp (disch:=first | omega | (simp only[It,so,An];omega)) only[Int.reduceEq,aRj,aRc,sb,da,e,v,G,A,H,P,tW,e2];rw[At J];rfl
 case' un a d h0 h1=>
  have v:=aLs m h0 h1;have e2:=xg (g a aUG d) 11
 case' fld a d=>have e2:=xg (g a aUG d) 12
 case bin a b d p h0 h1=>
  obtain⟨R,e2,v⟩:=aq7 m;have G:bq (zn m+1)=zn m+1:=Ks aUE aUE;have H:=Ml m h0 h1;simp only[Int.reduceEq,aRj,aRc];rw[R,sb,aq8 m h0 h1,sb,da aUQ,sb,da aUO,sb,sb,G,C a b [] (zn m) ([32]++abT m++[32]) (zn m+1) rfl (g a aUG d) (g b aUG p) hs];rfl
 case' cond a b c d p hc=>
  have A:=C a b [c] 3 [32,63,32] 1 rfl (g a aUG d) (g b aUG p) aUE;have H:=xg (g c aUG hc) 2
 case' ix a b d p=>have A:=C a b [] 12 [91] 1 rfl (g a aUG d) (g b aUG p) aUE
 case' and a b d p | or a b d p | O9 a b d p | asg a b d p | app a b d p=>
  have A:=λi s j=>C a b [] i s j rfl (g a aUG d) (g b aUG p);rw[A _ _ _ hs]
 all_goals clear g B K C L E hL hw o
 all_goals simp (disch:=first | omega | (simp only[It,so,An];omega)) only[Int.reduceEq,aRj,aRc,sb,da,eG,Aj, *]
end
theorem SQ {a:ae} (hw:wt a<=134217728) (h:vE a=true):1<=a.ah/\a.ah<=23:=by
 have:=abR hw h;clear h hw;generalize a.ah=k at*;generalize a.aE=m at*;generalize a.al=t at*;generalize a.af=b at*;cases this<;>omega
theorem JF {a:ae} (hw:wt a<=134217728) (h:vS a=true):31<=a.ah/\a.ah<=48:=by
 have:=abS hw h;clear h hw;generalize a.ah=k at*;generalize a.aE=m at*;generalize a.al=t at*;generalize a.af=b at*;cases this<;>omega
theorem aCD {a:ae} (h:a.ah<=23):dk a=some true:=by
 unfold dk;rw[At aUE];congr 1;rw[bne_iff_ne];omega
theorem aCE {a:ae} (h:31<=a.ah):dk a=some false:=by
 unfold dk;rw[As aUE]
section
variable {X Y:ae->av}
theorem akp {a:ae} {r:List ae} (h:OX X a) (b:a.ah<=23):(if((a::r).length:Int)>0 then idx (a::r) 0>>=λc=>dk c>>=λd=>(if d=true then idx (a::r) 0>>=λe=>dq e 1>>=λf=>some f else some [])else some [])=some (yn X a 1):=by
 rw[At aUR,eG,sb,aCD b,sb,At rfl,sb,xg h];rfl
theorem SR {a:ae} {r:List ae} (b:31<=a.ah):(if((a::r).length:Int)>0 then idx (a::r) 0>>=λc=>dk c>>=λd=>(if d=true then idx (a::r) 0>>=λe=>dq e 1>>=λf=>some f else some [])else some [])=some []:=by
 rw[At aUR,eG,sb,aCE b,sb,As aUF]
theorem akq:(if((([]:List ae).length:Nat):Int)>0 then idx ([]:List ae) 0>>=λa=>dk a>>=λb=>(if b=true then idx ([]:List ae) 0>>=λc=>dq c 1>>=λd=>some d else some [])else some [])=some []:=rfl
theorem aCF (n a b:ae) (s:av) (c:n.af=[a,b]) (d:OY Y b) (e:s.length+(Y b).length<=1099511627776):dQ n s 1=some (s++Y b):=by
 rw[dQ,c,At aUG,pR,sb,d.1,sb,da aUE,sb,show bq ((1:Int)+1)=2 from rfl,dQ,c,As aUG]
theorem aCG (n a b c:ae) (s:av) (d:n.af=[a,b,c]) (e:OY Y b) (hc:OY Y c) (f:s.length+(Y b).length+(Y c).length<=1099511627776):dQ n s 1=some (s++Y b++Y c):=by
 rw[dQ,d,At aUG,pR,sb,e.1,sb,da aUE,sb,show bq ((1:Int)+1)=2 from rfl,dQ,d,At aUG,Aj,sb,hc.1,sb,da aVj,sb,
  show bq ((2:Int)+1)=3 from rfl,dQ,d,As aUG]
theorem EA (l:List ae) (h:∀x∈l,¬x.ah=52->OY Y x) (a:l.length<=134217728) (b:(nY Y l).length<=1099511627776):iG l=some (nY Y l):=by
 have:=abZ l h a l.length 0 [] aUE (by rw[aRk,An];omega);rw[show((0:Nat):Int)=0 from rfl,aRk,aRe]at this;rw[iG,this];rfl
set_option maxHeartbeats 4000000 in
theorem afV (n:ae) {s:av} (h:PS X Y n.ah n.aE n.al n.af s) (hw:wt n<=134217728) (hs:s.length<=1099511627776)
  (u:∀x∈n.af,vE x=true->OX X x) (i:∀x∈n.af,vQ x=true->OY Y x):cA n=some s:=by
 have w:=(Ez hw).2;have p:=wk hw;have j:∀a b s,n.af=[a,b]->OY Y b->s.length+(Y b).length<=1099511627776->dQ n s 1=some (s++Y b):=λa b s=>aCF n a b s;have o:∀a b c s,n.af=[a,b,c]->OY Y b->OY Y c->s.length+(Y b).length+(Y c).length<=1099511627776->dQ n s 1=some (s++Y b++Y c):=λa b c s=>aCG n a b c s;rw[cA];generalize n.af=l at*;generalize n.al=t at*;generalize n.aE=m at*;generalize n.ah=k at*;cases h
 case' htm | glb | brk | cont | afO | inc h0=>rw[akq,sb]
 case' aqY a f | expr a f | thr a f | aqZ a f | yl1 a f | uns a f | if2 a b f g v | if3 a b c f g v hc z | whl a b f g v | fe3 a b c f hc z | fe4 a b c d f hd kd | yl2 a b f g | cat a b f q g v=>
  have y:=u a aUG f;rw[akp y (SQ (p a aUG) f).2,sb]
 case' Qu a b f q g | Qv a b f q g | Mk a b c f q g hc | fin a f q=>
  have F:=(i a aUG (rq f)).1;rw[SR aUE,sb]
 all_goals try simp only[It,so,An]at hs
 case' inc=>have e:=sQ t aUE
 case' uns=>have e:=xg y 12
 case' if2 | if3 | whl | cat=>have G:=(i b aUG (rq g)).1
 case' if3 | fe3=>have H:=(i c aUG (rq hc)).1
 case' fe3=>have A:bq ((([a,b,c]:List ae).length:Int) - 1)=2:=rfl
 case' fe4=>
  have I:=(i d aUG (rq hd)).1;have A:bq ((([a,b,c,d]:List ae).length:Int) - 1)=3:=rfl
 case' yl2=>have e2:=xg (u b aUG g) 1
 case' FK h=>
  have hp:(if(l.length:Int)>0 then idx l 0>>=λB=>dk B>>=λC=>(if C=true then idx l 0>>=λD=>dq D 1>>=λE=>some E else some [])else some [])=some []:=by
   rcases l with _ | ⟨a,r⟩
   ·rfl
   ·exact SR (JF (p a aUG) (ji h a aUG)).1
  rw[hp,sb];have e:=ab0 (Y:=Y) l λx hx=>by have:=JF (p x hx) (ji h x hx);omega
  have e2:=EA (Y:=Y) l (λx hx _=>i x hx (rq (ji h x hx))) w (by rw[e];omega);rw[e]at e2
 case' Qu=>have e:=j a b ([116,114,121,32]++Y a) rfl (i b aUG (afR g)) aUO
 case' Qv=>have e:=j a b ([116,114,121,32]++Y a) rfl (i b aUG (afS g)) aUO
 case' Mk=>have e:=o a b c ([116,114,121,32]++Y a) rfl (i b aUG (afR g)) (i c aUG (afS hc)) aUO
 all_goals clear u i j o hw p w
 all_goals simp (disch:=first | omega | (simp only[It,so,An];omega)) only[Int.reduceEq,aRj,aRc,sb,da,eG,pR,Aj,akb, *]
 all_goals rfl
end
def tX (n:ae):av:=(gQ n).getD []
def tY (n:ae):av:=(cA n).getD []
theorem SS:∀(N:Nat) (n:ae),sz n<N->wt n<=134217728->sz n<=600->(vE n=true->OX tX n/\Bd tX n/\PX tX tY n.ah n.aE n.al n.af (tX n))/\(vQ n=true->OY tY n/\Bd tY n/\PS tX tY n.ah n.aE n.al n.af (tY n))
 | 0,n,h,_,_=>by omega
 | N+1,n,h,hw,g=>by
  have a:∀x∈n.af,_:=λx hx=>SS N x aVu (by have:=jN hx;omega) aVu;have c:∀x∈n.af,∀y∈x.af,_:=λx hx y hy=>SS N y aVc aVq aVc;have d:=(Ez hw).1;have b:∀x∈n.af,x.al.length<=134217728:=λx hx=>(Ez (wk hw x hx)).1;have hs:=jU n;refine⟨λhv=>?_,λhv=>?_⟩
  ·obtain⟨s,hp⟩:=aCx tX tY (abR hw hv);have f:=aq5 hp d b (λx hx q=>((a x hx).1 q).2.1) (λx hx y hy q=>((c x hx y hy).1 q).2.1) (λx hx q=>((a x hx).2 q).2.1);have e:=afU n hp hw aUE (λx hx q=>((a x hx).1 q).1) (λx hx y hy q=>((c x hx y hy).1 q).1) (λx hx q=>((a x hx).2 q).1);have e2:tX n=s:=by rw[tX,e];rfl
   exact⟨⟨by rw[e,e2],by rw[e2];omega⟩,⟨by rw[e2];omega,by rw[e2];omega⟩,by rw[e2];exact hp⟩
  ·obtain⟨s,hp⟩:=aCy tX tY (aq0 hw hv);have f:=aq6 hp d b (λx hx q=>((a x hx).1 q).2.1) (λx hx q=>((a x hx).2 q).2.1);have e:=afV n hp hw aUE (λx hx q=>((a x hx).1 q).1) (λx hx q=>((a x hx).2 q).1);have e2:tY n=s:=by rw[tY,e];rfl
   exact⟨⟨by rw[e,e2],by rw[e2];omega⟩,⟨by rw[e2];omega,by rw[e2];omega⟩,by rw[e2];exact hp⟩
theorem pX {n:ae} (hw:wt n<=134217728) (a:sz n<=600) (hv:vE n=true):OX tX n/\Bd tX n/\PX tX tY n.ah n.aE n.al n.af (tX n):=(SS _ n (aRh _) hw a).1 hv
theorem pY {n:ae} (hw:wt n<=134217728) (a:sz n<=600) (hv:vQ n=true):OY tY n/\Bd tY n/\PS tX tY n.ah n.aE n.al n.af (tY n):=(SS _ n (aRh _) hw a).2 hv
def pfx (m:Int):av:=(if m=1\/m=3 then[112,114,105,118,97,116,101,32]else[])++(if m=2\/m=3 then[115,116,97,116,105,99,32]else[])
inductive PD:Int->Int->av->List ae->av->Prop
 | fn (k m:Int) (t:av) (l:List ae) (z:ae) (hk:k=49\/k=55) (h0:0<=m) (h1:m<=3) (hu:CR false false l=true) (kz:z.ah=48) (hz:vS z=true):PD k m t (l++[z]) (pfx m++[102,117,110,99,116,105,111,110,32]++t++params (l++[z]) 24++[32]++tY z)
 | use (t:av):PD 53 0 t [] ([117,115,101,32]++t++[59])
 | prop (m:Int) (t:av) (a:ae) (h0:0<=m) (h1:m<=1) (ha:vE a=true):PD 54 m t [a] (pfx m++[36]++t++[32,61,32]++tX a++[59])
def mb (x:ae):Prop:=∃s,PD x.ah x.aE x.al x.af s/\53<=x.ah
theorem afW {c:List ae} (h:m54 c=true):∃a,c=[a]/\vE a=true:=by
 rcases c with _ | ⟨a,_ | ⟨b,r⟩⟩
 ·cases h
 ·have h':(decide (1<=a.ah/\a.ah<=3)&&vE a)=true:=h;rw[No]at h';exact⟨a,rfl,h'.2⟩
 ·cases h
theorem JG {c f p:Bool} {x:ae} {r:List ae} (h:AY c f p (x::r)=true):((x.ah=52/\f=true/\c=true/\x.af=[])\/mb x)/\∃g,AY c false g r=true:=by
 rw[AY]at h;unfold mb;generalize x.ah=k at*;generalize x.aE=m at*;generalize x.al=t at*;generalize x.af=i at*;by_cases h1:k=52
 ·rw[h1]at h;simp only[aSI,aRY,No,aRi]at h;refine⟨.inl ⟨h1,h.1.1,h.1.2.1,?_⟩,_,h.2⟩;exact aSu.1 (by have:=h.1.2.2.2.2;omega)
 rw[an.2 h1,aRR]at h;by_cases h2:k=53
 ·rw[h2]at h;simp only[aSI,aRY,No,aRi]at h;refine⟨.inr ?_,_,h.2⟩;have b:=h.1.2.1;have e2:i=[]:=aSu.1 (by have:=h.1.2.2.2;omega);subst h2;subst b;subst e2;exact⟨_,.use _,by omega⟩
 rw[an.2 h2,aRR]at h;by_cases d:k=54
 ·rw[d]at h;simp only[aSI,aRY,No,aSx]at h;refine⟨.inr ?_,_,h.2⟩;obtain⟨a,b,e2⟩:=afW h.1.2.2;subst d;subst b;exact⟨_,.prop _ _ _ h.1.1.1 h.1.1.2 e2,by omega⟩
 rw[an.2 d,aRR]at h;simp only[No,aSx,aRi]at h;obtain⟨⟨j,e,u,n⟩,o⟩:=h;refine⟨.inr ?_,_,o⟩;obtain⟨l,z,b,e2,q,s⟩:=Qt n;subst j;subst b;exact⟨_,.fn _ _ _ _ _ (.inr rfl) e.1 e.2 e2 q s,by omega⟩
theorem SU {c:Bool}:∀{l:List ae} {p:Bool},AY c false p l=true->∀x∈l,mb x
 | [],_,_,x,hx=>by cases hx
 | y::r,p,h,x,hx=>by
  obtain⟨h1,a,h2⟩:=JG h;rcases aRo.1 hx with e | e
  ·subst e;rcases h1 with q | q
   ·cases q.2.1
   ·exact q
  ·exact SU h2 x e
theorem Db (m:Int):(pfx m).length<=15:=by
 unfold pfx;split<;>split<;>simp
theorem u24 {l:List ae} {b:Bool} (h:CR false b l=true):∀x∈l,x.ah=24:=by
 induction l generalizing b with
 | nil=>intro x hx;cases hx
 | cons y r a=>
  rw[CR]at h;simp only[aRF,aRy,No,aRi]at h;intro x hx;rcases aRo.1 hx with e | e
  ·rw[e];exact h.1.1
  ·exact a h.2.2.2.2 x e
theorem aq9 {a:ae} (h:a.ah=24):dk a=some false:=by
 unfold dk;rw[At aUE,h];rfl
theorem afX (m:Int) (h0:0<=m) (h1:m<=3):(if(bits .and .i64 m 1)=1 then some [112,114,105,118,97,116,101,32]else(some []:Option av))=some (if m=1\/m=3 then[112,114,105,118,97,116,101,32]else[]):=by
 rcases(by omega:m=0\/m=1\/m=2\/m=3)with h | h | h | h<;>subst h<;>rfl
theorem afY (m:Int) (h0:0<=m) (h1:m<=3) (s:av) (hs:s.length<=100):(if(bits .and .i64 m 2)=2 then bx s [115,116,97,116,105,99,32]>>=λa=>some a else some s)=some (s++(if m=2\/m=3 then[115,116,97,116,105,99,32]else[])):=by
 rcases(by omega:m=0\/m=1\/m=2\/m=3)with h | h | h | h<;>subst h
 ·rw[As aUF];simp
 ·rw[As aUF];simp
 ·rw[At aUF,da aUQ];rfl
 ·rw[At aUF,da aUQ];rfl
theorem ab1 {k m:Int} {t:av} {b:List ae} {s:av} (h:PD k m t b s) (j:t.length<=134217728) (c:∀x∈b,wt x<=134217728) (d:1+jT b<=600):s.length+24<=536870912*(1+jT b):=by
 cases h
 case fn l z hu e f n h0 h1=>
  have o:=uX 24 l z (by rw[e];rfl) (λx hx=>(Ez (c x aVm)).1);have p:=C9 l z;have e2:=(pY (c z aUG) aUE (rq f)).2.1.2;have g:=Db m;simp only[It,so,An];omega
 case use=>simp only[jT,It,so,An];omega
 case prop a i h0 h1=>
  simp only[jT]at d;have e2:=(pX (c a aUG) aUE i).2.1.2;have g:=Db m;simp only[jT,It,so,An];omega
set_option maxHeartbeats 4000000 in
theorem afZ (n:ae) {s:av} (h:PD n.ah n.aE n.al n.af s) (hw:wt n<=134217728) (B:sz n<=600):cA n=some s:=by
 have p:=ab1 h (Ez hw).1 (wk hw) (by have:=jU n;omega);have q:=jU n;have hs:s.length<=1099511627776:=by omega
 have g:=(Ez hw).2;have d:=wk hw;have b:∀x∈n.af,sz x<=600:=λx hx=>by have:=kO hx;omega
 rw[cA,mS];generalize n.af=C at*;generalize n.al=t at*;generalize n.aE=m at*;generalize n.ah=k at*;cases h
 case fn l z hu D u c h0 h1=>
  have hp:(if(((l++[z]).length:Nat):Int)>0 then idx (l++[z]) 0>>=λv=>dk v>>=λw=>(if w=true then idx (l++[z]) 0>>=λy=>dq y 1>>=λA=>some A else some [])else some [])=some []:=by
   rcases l with _ | ⟨a,r⟩
   ·exact SR aUE
   ·rw[aRw,At aUR,eG,sb,aq9 (u24 hu a aUG),sb,As aUF]
  have e:=Ey (l++[z]) 24 g (by simp only[It,so,An]at hs;omega);have e2:=(pY (d z aUG) (b z aUG) (rq u)).1.1;have i:bq (((l++[z]).length:Int) - 1)=(l.length:Int):=kj aUG (by simp at g;omega);have f:=Db m;simp only[pfx,It]at f;simp only[pfx,It,so,An]at hs;rw[hp,sb,afX m h0 h1,sb,afY m h0 h1 _ aUE,sb,i];rcases c with c | c<;>subst c
  ·simp (disch:=first | omega | (simp only[It,so,An];omega)) only[Int.reduceEq,Int.reduceBEq,aRj,aRc,sb,da,e,e2,tW,pfx]
  ·simp (disch:=first | omega | (simp only[It,so,An];omega)) only[Int.reduceEq,Int.reduceBEq,aRj,aRc,sb,da,e,e2,tW,pfx]
 case use=>
  simp only[It,so,An]at hs;rw[akq,sb,afX 0 aUE aUE,sb,afY 0 aUE aUE _ aUG,sb];simp (disch:=first | omega | (simp only[It,so,An];omega)) only[Int.reduceEq,Int.reduceBEq,atX,aRj,aRc,sb,da]
 case prop a j h0 h1=>
  obtain⟨o,e2,i⟩:=pX (d a aUG) (b a aUG) j;have f:=Db m;simp only[pfx,It]at f;simp only[pfx,It,so,An]at hs;rw[akp o (SQ (d a aUG) j).2,sb,afX m h0 aUE,sb,afY m h0 aUE _ aUE,sb];simp (disch:=first | omega | (simp only[It,so,An];omega)) only[Int.reduceEq,Int.reduceBEq,atX,aRj,aRc,sb,da,eG,o.1,pfx]
theorem pD {n:ae} {s:av} (h:PD n.ah n.aE n.al n.af s) (hw:wt n<=134217728) (a:sz n<=600):s=tY n/\OY tY n/\(tY n).length+24<=536870912*sz n:=by
 have e:=afZ n h hw a;have h0:=ab1 h (Ez hw).1 (wk hw) (by have:=jU n;omega);have hs:=jU n;have e2:tY n=s:=by rw[tY,e];rfl
 exact⟨e2.symm,⟨by rw[e,e2],by rw[e2];omega⟩,by rw[e2];omega⟩
def ext (a:List ae):av:=match a with | x::_=>(if x.ah=52 then[32,101,120,116,101,110,100,115,32]++x.al else[]) | []=>[]
def Qw (n:ae):av:=(if n.ah=50 then[99,108,97,115,115,32]else[116,114,97,105,116,32])++n.al++ext n.af++[32,123,32]++nY tY n.af++[125]
theorem BB:∀(l:List ae),(∀x∈l,¬x.ah=52->(tY x).length+24<=536870912*sz x)->(nY tY l).length<=536870912*jT l
 | [],_=>by simp [nY]
 | x::r,h=>by
  have h1:=BB r (λy hy=>h y aVr);have h2:=h x aUG;unfold nY at h1 ⊢;rw[aSm,jT,It];by_cases a:x.ah=52
  ·rw[a];simp only[aSI,aRY,An];omega
  ·rw[an.2 a];simp only[aRR,It,so,An];have:=h2 a;omega
theorem akr {x:ae} (h:mb x) (hw:wt x<=134217728) (a:sz x<=600):PD x.ah x.aE x.al x.af (tY x)/\OY tY x/\(tY x).length+24<=536870912*sz x:=by
 obtain⟨s,h1,_⟩:=h;obtain⟨e,h2,b⟩:=pD h1 hw a;exact⟨by rw[<-e];exact h1,h2,b⟩
theorem af0 {n:ae} {c:Bool} (h:AY c true false n.af=true):∀x∈n.af,¬x.ah=52->mb x:=by
 generalize n.af=b at*;rcases b with _ | ⟨a,r⟩
 ·intro x hx;cases hx
 ·obtain⟨h1,f,h2⟩:=JG h;intro x hx d;rcases aRo.1 hx with e | e
  ·subst e;rcases h1 with q | q
   ·exact absurd q.1 d
   ·exact q
  ·exact SU h2 x e
theorem SV {x:ae} (h:mb x):53<=x.ah:=by obtain⟨_,_,h⟩:=h;exact h
set_option maxHeartbeats 4000000 in
theorem pC {n:ae} (b:n.ah=50\/n.ah=51) (l:n.aE=0) (h:AY (n.ah==50) true false n.af=true) (hw:wt n<=134217728) (z:sz n<=600):tY n=Qw n/\OY tY n/\(tY n).length+24<=536870912*sz n:=by
 have g:=jU n;have i:=(Ez hw).2;have A:=(Ez hw).1;have f:=wk hw;have c:∀x∈n.af,sz x<=600:=λx hx=>by have:=kO hx;omega
 have hm:=af0 h;have m:=BB n.af (λx hx q=>(akr (hm x hx q) (f x hx) (c x hx)).2.2)
 have hx:(ext n.af).length<=134217737:=by
  unfold ext;clear h hm m i g;generalize n.af=d at*;rcases d with _ | ⟨a,r⟩
  ·simp
  ·have:=(Ez (f a aUG)).1;dsimp only;split
   ·simp only[It,so,An];omega
   ·simp
 have hL:(Qw n).length+24<=536870912*sz n:=by
  unfold Qw;split<;>simp only[It,so,An]<;>omega
 have e:cA n=some (Qw n):=by
  have o:=EA (Y:=tY) n.af (λx hx q=>(akr (hm x hx q) (f x hx) (c x hx)).2.1) i aUE
  have hp:(if(n.af.length:Int)>0 then idx n.af 0>>=λp=>dk p>>=λs=>(if s=true then idx n.af 0>>=λu=>dq u 1>>=λv=>some v else some [])else some [])=some []:=by
   generalize n.af=d at*;rcases d with _ | ⟨a,r⟩
   ·rfl
   ·refine SR ?_;by_cases q:a.ah=52
    ·omega
    ·have:=SV (hm a aUG q);omega
  rw[cA,mS,hp,sb,l,afX 0 aUE aUE,sb,afY 0 aUE aUE _ aUG,sb,o];unfold Qw
  have hq:∀(a:ae) (r:List ae),n.af=a::r->a.ah=52->n.ah=50:=λa r w e2=>by
   rw[w]at h;obtain⟨h1,_⟩:=JG h;rcases h1 with q | q
   ·exact eq_of_beq q.2.2.1
   ·have:=SV q;omega
  generalize nY tY n.af=T at*;generalize n.af=d at*;generalize n.al=t at*;generalize n.ah=k at*;rcases d with _ | ⟨a,r⟩
  ·rcases b with b | b<;>subst b
   ·simp (disch:=first | omega | (simp only[It,so,An];omega)) only[Int.reduceEq,Int.reduceBEq,atX,aRj,aRc,sb,da,ext,aRz];rw[As aUG];rfl
   ·simp (disch:=first | omega | (simp only[It,so,An];omega)) only[Int.reduceEq,Int.reduceBEq,atX,aRj,aRc,sb,da,ext,aRz]
  ·have y:=(Ez (f a aUG)).1;rcases b with b | b<;>subst b
   ·have j:(((a::r).length:Nat):Int)>0:=by simp only[so];omega
    by_cases q:a.ah=52
    ·simp (disch:=first | omega | (simp only[It,so,An];omega)) only[Int.reduceEq,Int.reduceBEq,atX,aRj,aRc,sb,da,ext,eG,q];rw[At j];simp only[sb,aRm]
    ·simp (disch:=first | omega | (simp only[It,so,An];omega)) only[Int.reduceEq,Int.reduceBEq,atX,aRj,aRc,sb,da,ext,eG,q,aRz];rw[At j];rfl
   ·have q:¬a.ah=52:=λq=>by have:=hq a r rfl q;omega
    simp (disch:=first | omega | (simp only[It,so,An];omega)) only[Int.reduceEq,Int.reduceBEq,atX,aRj,aRc,sb,da,ext,q,aRz]
 have e2:tY n=Qw n:=by rw[tY,e];rfl
 exact⟨e2,⟨by rw[e,e2],by rw[e2];omega⟩,by rw[e2];omega⟩
inductive Top (n:ae):Prop
 | st (h:vS n=true)
 | fn (hk:n.ah=49) (hn:n.aE=0) (h:PD n.ah n.aE n.al n.af (tY n))
 | cl (hk:n.ah=50\/n.ah=51) (hn:n.aE=0) (h:AY (n.ah==50) true false n.af=true) (e:tY n=Qw n)
theorem pP {n:ae} (h:vP n=true) (hw:wt n<=134217728) (d:sz n<=600):Top n/\OY tY n/\(tY n).length+24<=536870912*sz n/\¬n.ah=52:=by
 rw[vP,aRZ]at h;rcases h with h | h
 ·rw[vT,No,No,aRi]at h;obtain⟨h1,h2,a⟩:=h;by_cases c:n.ah=49
  ·rw[c,aSI,aRY]at a;obtain⟨l,z,f,e2,g,i⟩:=Qt a
   have hp:∃s,PD n.ah n.aE n.al n.af s:=by
    rw[f];exact⟨_,.fn _ _ _ _ _ (.inl c) aUE aUE e2 g i⟩
   obtain⟨s,hp⟩:=hp;obtain⟨q1,b,e⟩:=pD hp hw d;exact⟨.fn c h1 (by rw[<-q1];exact hp),b,e,by omega⟩
  ·rw[an.2 c,aRR,No,aRZ,aRi,aRi]at a;obtain⟨q1,b,e⟩:=pC a.1 h1 a.2 hw d;exact⟨.cl a.1 h1 a.2 q1,b,e,by omega⟩
 ·obtain⟨q1,b,_⟩:=pY hw d (rq h);have:=JF hw h;exact⟨.st h,q1,b.2,by omega⟩
theorem Qx (n:ae) (hw:wt n<=134217728):∃s,mD n=some s/\s.length<=1099511627776:=by
 obtain⟨_,e2⟩:=BC n hw;unfold mD;rw[e2,sb];cases hv:vX n
 ·exact⟨_,rfl,by simp⟩
 ·rw[vX,No,aSx]at hv;obtain⟨q1,a,_⟩:=pX hw hv.1.1 hv.2;refine⟨tX n,?_,q1.2⟩;rw[At rfl,q1.1];rfl
theorem Qy (n:ae) (hw:wt n<=134217728):∃s,kR n=some s/\s.length<=1099511627776:=by
 obtain⟨_,e2⟩:=xh n hw;unfold kR;rw[e2,sb];cases hv:vZ n
 ·exact⟨_,rfl,by simp⟩
 ·rw[vZ]at hv;simp only[No,aSx]at hv;obtain⟨_,_,_,e,a⟩:=hv;have b:=(Ez hw).2;have w1:=wk hw;have c:∀x∈n.af,sz x<=600:=λx hx=>by have:=kO hx;omega
  have hp:=λx hx=>pP (ji a x hx) (w1 x hx) (c x hx);have f:=BB n.af (λx hx _=>(hp x hx).2.2.1);have hs:=jU n;have d:=EA (Y:=tY) n.af (λx hx _=>(hp x hx).2.1) b aUE;refine⟨[60,63,32]++nY tY n.af,?_,by rw[It];simp only[so,An];omega⟩;rw[At rfl,d,sb,da aUQ];rfl
theorem ab2 {b:List UInt8} (d:b.length<=1048576):eQ (iu b) (λs=>s.length<=2199023255552):=by
 unfold iu;obtain⟨c,e,hc⟩:=ab3 d;rw[e,sb];refine eQ.bind (t37 hc aUF aUF) ?_;rintro⟨_,c⟩ hc;refine eQ.ite ?_ ?_
 ·refine eQ.bind (ara hc) ?_;rintro⟨n,c⟩ ⟨a,hc⟩;have a:wt n<=40000000:=a;obtain⟨s,f,e2⟩:=Qy n aUE;dsimp only;rw[f,sb];refine eQ.bind (SW hc e2) ?_;rintro⟨s',c⟩ ⟨h1,_⟩;have h1:s'.length<=s.length+1:=h1;exact eQ.ret aUE
 ·refine eQ.bind (arb hc) ?_;rintro⟨s,c⟩ ⟨h1,_⟩;have h1:s.length<=400:=h1;refine eQ.bind (P:=λr=>r.length<=500) ⟨[60,63,32]++s,At aUQ,by show([60,63,32]++s).length<=500;rw[It];simp only[so,An];omega⟩ ?_;intro r g;exact eQ.ret aUE
theorem ab4 {b:List UInt8} (a:b.length<=1048576):eQ (jA b) (λs=>s.length<=2199023255552):=by
 unfold jA;obtain⟨c,e,hc⟩:=ab3 a;rw[e,sb];refine eQ.bind (t37 hc aUF aUF) ?_;rintro⟨_,c⟩ hc;refine eQ.ite ?_ ?_
 ·refine eQ.bind (t39 hc aUF aUF aUF) ?_;rintro⟨s,c⟩ ⟨h1,_⟩;have h1:s.length<=100:=h1;exact eQ.ret aUE
 ·refine eQ.bind (Dc 3 aUF 3 aUF aUF _ hc) ?_;rintro⟨n,c⟩ ⟨d,hc⟩;have d:wt n<=bM 3:=d;have a:bM 3<=40000000:=by decide
  obtain⟨s,f,e2⟩:=Qx n aUE;dsimp only;rw[f,sb];refine eQ.bind (SW hc e2) ?_;rintro⟨s',c⟩ ⟨h1,_⟩;have h1:s'.length<=s.length+1:=h1;exact eQ.ret aUE
theorem Hs:∀(k:Nat),(∀n:ae,sz n<=k->sz n<4611686018427387904->kK n=some (sz n:Int))
 | 0,n,h,_=>by have:=rm n;omega
 | k+1,n,h,c=>by
  have a:=jU n
  have go:∀(f i s:Nat),n.af.length<=i+f->s+jT (n.af.drop i)<4611686018427387904->ju n (s:Int) (i:Int)=some ((s+jT (n.af.drop i):Nat):Int):=by
   intro f;induction f with
   | zero=>
    intro i s h1 h2;rw[ju,As aUE,aRd aUE];rfl
   | succ f b=>
    intro i s h1 h2;rw[ju];by_cases hc:i<n.af.length
    ·have hd:=xc n.af i hc;have d:=Bx n.af i hc;have e:=uT n.af;rw[At aUE,dj hc,sb,Hs k _ aUE aUE,sb,ca aUE,kj (n:=s+sz n.af[i]) aUE aUE,b (i+1) _ aUE aUE,hd];exact congrArg (λz:Nat=>some (z:Int)) aUE
    ·rw[As aUE,aRd aUE];rfl
  have h0:=go n.af.length 0 1 aUE (by rw[aRk];omega);rw[kK];rw[show((1:Nat):Int)=1 from rfl,show((0:Nat):Int)=0 from rfl,aRk]at h0;rw[h0,sb,a]
theorem Ht:∀(N:Nat) (n:ae),sz n<N->sz n<4611686018427387904->kL n n=some true
 | 0,n,h,_=>by omega
 | N+1,n,h,b=>by
  have c:=jU n;have d:=uT n.af
  have go:∀(f i:Nat),n.af.length<=i+f->jv n n (i:Int)=some (.inl ()):=by
   intro f;induction f with
   | zero=>
    intro i h1;rw[jv,As aUE]
   | succ f a=>
    intro i h1;rw[jv];by_cases hc:i<n.af.length
    ·have e:=Bx n.af i hc;rw[At aUE,dj hc,sb,sb,Ht N _ aUE aUE,sb,At rfl,ca aUE,a (i+1) aUE]
    ·rw[As aUE]
  have h0:=go n.af.length 0 aUE;rw[show((0:Nat):Int)=0 from rfl]at h0;rw[kL,At rfl,At rfl,At rfl,At rfl,h0,sb]
theorem JH (s:av) (hs:s.length<=2199023255552):∃n k p,fg s=some (n,k,p)/\(k=0->p=0/\kN n=some true)/\(k≠0->n.af=[]/\0<=p/\p<=(s.length:Int)):=by
 by_cases h:s.length<=1048576
 ·obtain⟨a,k0,d,l,n,k,p,e,hw,h0,h1,_⟩:=Mn s h;obtain⟨ts,k1,f,b,w1,g,_⟩:=Dd s;rw[l]at b;have b:=aRO b;have i:a=ts:=congrArg Prod.fst b;have f2:d=f:=congrArg (λx=>x.2.2) b;subst i;subst f2;refine⟨n,k,p,e,λc=>⟨(h0 c).1,by rw[(xh n hw).1,(h0 c).2]⟩,λc=>?_⟩;obtain⟨q1,m⟩:=h1 c;refine⟨q1,?_⟩;rcases m with rfl | rfl | ⟨j,rfl⟩
  ·omega
  ·exact w1
  ·unfold pl;by_cases hj:j<a.length
   ·rw[At hj];exact(g _ (Ap hj)).1
   ·rw[As hj];omega
 ·refine⟨.mk 0 0 [] [],1,0,?_,λq=>absurd q aUF,λ_=>⟨rfl,by omega,by omega⟩⟩;unfold fg mr;rw[sb,At aUE,sb,sb];dsimp only;rw[As aUF]
theorem brv (n:ae) (hw:wt n<=134217000) (hv:vX n=true) (h1:sz n<=100) (h2:dp n<=20):vZ (.mk 56 0 [] [.mk 33 0 [] [n]])=true:=by
 rw[vX,No]at hv;have w1:wt (.mk 33 0 [] [n])<=134217728:=by rw[fD,cy];simp only[An];omega
 have hs:vS (.mk 33 0 [] [n])=true:=by
  rw[Mh w1];show(rY 33 0&&(tU 33 []&&vE n))=true;rw[hv.2];rfl
 have a:sz (.mk 56 0 [] [.mk 33 0 [] [n]])=1+(1+(sz n+0)+0):=rfl;have b:dp (.mk 56 0 [] [.mk 33 0 [] [n]])=1+max (1+max (dp n) 0) 0:=rfl;unfold vZ;show(true&&(true&&(true&&(decide (sz (.mk 56 0 [] [.mk 33 0 [] [n]])<=600/\dp (.mk 56 0 [] [.mk 33 0 [] [n]])<=30)&&([ae.mk 33 0 [] [n]].all vP)))))=true;rw[aSa (by rw[a,b];omega)];simp only[aSn,aRn,aRU,aRE];unfold vP;rw[hs,aSg]
theorem JI (t:av) (E:t.length<=2199023255552):∃n k,jM t=some (n,k)/\(k≠0->n.af=[])/\wt n<=134217728/\
  (k=0->t.length<=1000->sz n<=100->dp n<=20->ng n=some true/\fg ([60,63,32,40]++t++[10,41,59])=some (.mk 56 0 [] [.mk 33 0 [] [n]],0,0)):=by
 by_cases h:t.length<=1048576
 ·obtain⟨ts,k0,F,q1,n,k,e,hw,h0,h1⟩:=ab5 t h;refine⟨n,k,e,h0,hw,λG E u hd=>?_⟩;obtain⟨y,hv,Y,I⟩:=h1 G;refine⟨by rw[(BC n hw).1,hv],?_⟩;subst y;obtain⟨z,k0,Z,l2,_,_,J⟩:=Dd ([60,63,32]++t);rw[q1]at l2;have l2:=aRO l2;have p:ts=z:=congrArg Prod.fst l2;have f2:(0:Int)=k0:=congrArg (λx=>x.2.1) l2;subst p;subst f2;have H:Tk ts (t.length:Int):=(J rfl).2 _ aUE;obtain⟨hlen,A⟩:=arc t aUE ts F q1
  have runs:∀(a b e2:Int),0<=a->0<=b->0<=e2->fnd ts ts.length/\aY (P1 (⟨6,0,[40],3⟩::ts.map sh++[⟨6,0,[41],a⟩,⟨6,0,[59],b⟩]) e2 1)=some (n,P1 (⟨6,0,[40],3⟩::ts.map sh++[⟨6,0,[41],a⟩,⟨6,0,[59],b⟩]) e2 (ts.length+1)):=by
   intro a b e2 r s he;have f:=aks H aUE he r s;have S:=akt ts 3 a b;rcases(ab6 H f S).g (i:=0) (aRV _) _ I with m | ⟨r',B,K⟩
   ·exact absurd (show(-1:Int)<0 by decide) m
   ·obtain⟨j,v,⟨j1,j2⟩,j3,D,rfl⟩:=K.out;have g2:n=v:=congrArg Prod.fst D;have g3:(ts.length:Int)=(j:Int):=congrArg (λx:ae×aP=>x.2.fI) D;have M:j=ts.length:=by omega
    subst g2;subst M;exact⟨j2,B⟩
  rcases A with N | ⟨a,b,r,s,O⟩
  ·exfalso;obtain⟨⟨j,hj,j1,j2⟩,_⟩:=runs 0 0 0 aUF aUF aUF;obtain⟨x,c,rfl,hc⟩:=N;have hj:j=x.length:=by rw[It]at hj;simp only[so,An]at hj;omega
   have B:tok (x++[c]) j=c:=by unfold tok;rw[hj,aRb,aRv (Of _),aSz];rfl
   unfold kd at j1;unfold kd tx at j2;rw[B]at j1 j2;rcases hc with hc | hc
   ·exact j1 hc
   ·exact j2 hc
  ·have P:([60,63,32,40]++t++[10,41,59]).length<=1048576:=by simp;omega
   obtain⟨cu,k2,p2,o,n',k',p',s2,_,_,_,Q⟩:=Mn ([60,63,32,40]++t++[10,41,59]) P;rw[O]at o;have o:=aRO o;have p:=congrArg Prod.fst o;have f2:(0:Int)=k2:=congrArg (λx=>x.2.1) o;have S:=akt ts 3 a b;obtain⟨_,r1⟩:=runs a b (([60,63,32,40]++t++[10,41,59]).length:Int) r s aUE;have f:=aks H aUE (show(0:Int)<=(([60,63,32,40]++t++[10,41,59]).length:Int) by omega) r s;dsimp only at p;rw[p]at r1 f S;subst f2;have d:∀{i:Nat} {w:av},kd cu i=6->tx cu i=w->tw cu i w=true:=λh1 h2=>by unfold tw;rw[h1,h2];simp
   have C:=d S.k0 S.t0;have w1:=d S.k1 S.t1;have R:=d S.k2 S.t2;have T:=af1 f (L:=ts.length) (by rw[S.len];omega) C w1 S.k2 S.t2 r1;have U:=af2 f (L:=ts.length) (by rw[S.len];omega) C R S.k0 T;have V:=UG f (L:=ts.length) (by rw[S.len]) C S.k0 U;have u:=brv n aUE hv u hd;obtain⟨y1,W,X⟩:=Q rfl _ _ V u;rw[s2,y1,W,X]
 ·refine⟨.mk 0 0 [] [],1,?_,λ_=>rfl,by decide,λq=>absurd q aUF⟩;have e:bx [60,63,32] t=some ([60,63,32]++t):=At aUQ;have l:([60,63,32]++t).length=t.length+3:=by simp
  unfold jM mr;rw[e,sb,sb,At aUE,sb,sb];dsimp only;rw[As aUF]
theorem Qz (b:List UInt8):qG b=some true:=by
 unfold qG;by_cases f:(b.length:Int)>1048576
 ·rw[At f]
 ·rw[As f];obtain⟨s,i,hs⟩:=ab2 (b:=b) aUE;obtain⟨t,e2,j⟩:=ab4 (b:=b) aUE;obtain⟨n,k,p,l,o,q⟩:=JH s hs;obtain⟨x,m,r,u,v,w⟩:=JI t j;rw[i,sb,l,sb,sb];dsimp only;rw[afL];refine(gA (a:=.inl ()) ?_).trans ?_
  ·by_cases d:k=0
   ·obtain⟨e,g2⟩:=o d;rw[At d,g2,sb,At rfl,At e,At d]
   ·obtain⟨e,g2,z⟩:=q d;rw[As d,As d,e,As aUG,As aUE,As aUE]
  ·dsimp only;rw[e2,sb,r,sb];dsimp only;by_cases hm:m=0
   ·have c:sz x<4611686018427387904:=EB v;rw[At hm,At hm];by_cases g:(t.length:Int)>1000
    ·rw[At g,sb,At rfl,sb]
    ·rw[As g,Hs _ x (Of _) c,sb];by_cases h:((sz x:Nat):Int)>100
     ·rw[At h,sb,At rfl,sb]
     ·rw[As h,Qi _ x (Of _) c,sb,sb];by_cases hd:((dp x:Nat):Int)>20
      ·rw[aSa hd,At rfl,sb]
      ·obtain⟨e,g2⟩:=w hm aUE aUE aUE;rw[aRA hd,As are,sb];dsimp only;have q1:bx [60,63,32,40] t=some ([60,63,32,40]++t):=At aUQ;have y:bx ([60,63,32,40]++t) [10,41,59]=some ([60,63,32,40]++t++[10,41,59]):=At aUO;rw[q1,sb,y,sb,g2,sb];dsimp only;rw[show idx (ae.mk 56 0 [] [ae.mk 33 0 [] [x]]).af 0=some (ae.mk 33 0 [] [x])from eG,sb,show idx (ae.mk 33 0 [] [x]).af 0=some x from eG,sb,e,sb,At rfl,At rfl,At (by rfl),At (by rfl),Ht _ x (aRh _) c,sb]
   ·rw[As hm,sb,At rfl,As hm,sb];dsimp only;rw[u hm];rfl
theorem UH (code:List UInt8):ACall Tryz.prog 8 [sl 1 cB code] [] (λres _=>res=.bool true):=
 (Gk (Qz code)).mono (λ_ _ h=>h.1)
theorem QA {S:Nat->Prop} {w:World} {sz n:Nat} {f g:Nat->List PV} {v:Value} (h:bh S w (.im sz n f) v) (e:∀i,i<n->f i=g i):bh S w (.im sz n g) v:=by
 cases h with
 | rZ=>exact .rZ _ _ _ _
 | im _ _ _ b off c a d hlen hc k l=>
  exact .im sz n g b off c a d (λi hi=>by rw[<-e i hi];exact hlen i hi) hc (λi j pv hi hj=>k i j pv hi (by rw[e i hi];exact hj)) (λi j pv hi hj=>l i j pv hi (by rw[e i hi];exact hj))
theorem QB {S:Nat->Prop} {w:World} {a:Option Addr} {len cap:Nat} {c:List Int}
  (h:(a=none/\len=0/\cap=0/\c=[])\/∃x,a=some x/\len<=cap/\cap<=maxLen/\c.length=cap/\(∀i,i<c.length->w.cell? (x.add i)=some (.int .u8 (c.getD i 0)))/\∀n∈c,(Lit.int .u8 n).wf=true)
  (d:∀b,b<w.heap.size->S b):∃e:List UInt8,bh S w (sl 1 cB e) (.slice a len cap):=by
 have hp:=UI h d
 have f:len<=c.length:=by
  rcases h with⟨rfl,rfl,rfl,rfl⟩ | ⟨x,rfl,l,hm,f,m,g⟩
  ·simp
  ·omega
 have j:∀i,0<=c.getD i 0/\c.getD i 0<=255:=ab7 h;refine⟨(c.take len).map λz=>UInt8.ofNat z.toNat,?_⟩;have hlen:((c.take len).map λz=>UInt8.ofNat z.toNat).length=len:=by simp;omega
 show bh S w (.im 1 ((c.take len).map λz=>UInt8.ofNat z.toNat).length (row cB _)) _;rw[hlen];refine QA hp (λi hi=>?_);have o:=j i;rw[oW (by rw[hlen];exact hi),List.getElem_map,List.getElem_take]
 have k:c.getD i 0=c[i]'aUE:=by
  rw[aRb];simp [show i<c.length by omega]
 rw[<-k];show _=[PV.int .u8 ((UInt8.ofNat (c.getD i 0).toNat).toNat:Int)];congr 2;rw[UInt8.toNat_ofNat'];omega
end Go.Am
