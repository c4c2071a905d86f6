/- Lemmas. -/
import Derived.Test.YtehhldljdakgeaaGreatDoorQb01
import Derived.Test.YtehhldljdakgeaaGreatDoorQb10
set_option linter.unusedSimpArgs false
set_option linter.unusedVariables false
set_option maxHeartbeats 16000000
set_option maxRecDepth 100000
namespace Go.Proofs.YtehhldljdakgeaaGreatDoor
open Go.RowKit Go.Maps Go.Proofs.Tryz
attribute [local go_sem ↓] aJ aK
section
variable {e:Nat} {c:Ca}
theorem yt {C:List Sl} {x:Ob}:x∈qj e C↔∃(i:Nat) (s:Sl) (k:Nat),C[i]?=some s∧s.T[k]?=some true∧x=vK e s k:=by
 rw[tH];constructor
 ·rintro⟨s,hs,k,hk,rfl⟩
  obtain⟨i,hi,rfl⟩:=iP.1 hs;exact⟨i,_,k,aA hi,hk,rfl⟩
 ·rintro⟨i,s,k,hs,hk,rfl⟩
  exact⟨s,aF hs,k,hk,rfl⟩
theorem ob_pg (e1:1≤e) {s:Sl} (hl:s.T.length=kL e) {k:Nat} (hk:k<s.T.length):0≤(k:Int)*e∧(k:Int)*e+e≤64:=by
 rw[hl] at hk;have h1:(k+1)*e≤64:=bW (iQ e (show k+1≤kL e by omega)) (Nat.div_mul_le_self 64 e);have h2:((k:Int)+1)*e≤64:=by exact_mod_cast h1
 rw[Int.add_mul,Int.one_mul] at h2;exact⟨fO om om,h2⟩
theorem mul_inj {e k k':Nat} (e1:1≤e) (h:(k:Int)*e=(k':Int)*e):k=k':=by
 have h2:k*e=k'*e:=by exact_mod_cast h
 exact Nat.eq_of_mul_eq_mul_right om h2
theorem ob_at (h:uR e c) {i j:Nat} {s t:Sl} {k k':Nat} (hs:c.C[i]?=some s) (ht:c.C[j]?=some t) (hk:k<s.T.length) (hk':k'<t.T.length) (heq:vK e s k=vK e t k'):i=j∧k=k':=by
 have e1:=h.e1;have a:=ob_pg e1 (h.len s (aF hs)) hk;have b:=ob_pg e1 (h.len t (aF ht)) hk';unfold vK at heq;injection heq with q1 q2;have hi:=(au.1 hs);have hj:=(au.1 ht);obtain⟨li,ei⟩:=hi;obtain⟨lj,ej⟩:=hj;have hp:s.pg=t.pg:=om;have hij:i=j:=by
  rcases gW i j with q|q|q
  ·have:=dO.1 h.srt i j li lj q
   rw[ei,ej] at this;unfold ltS ltP at this;omega
  ·exact q
  ·have:=dO.1 h.srt j i lj li q
   rw[ei,ej] at this;unfold ltS ltP at this;omega
 refine⟨hij,mul_inj e1 ?_⟩;omega
theorem obs_set (h:uR e c) {i:Nat} {s:Sl} (hs:c.C[i]?=some s) {k:Nat} (hk:k<s.T.length) (b:Bool) (x:Ob):
 x∈qj e (c.C.set i (oH s k b))↔(x=vK e s k∧b=true)∨(x∈qj e c.C∧x≠vK e s k):=by
 have hil:=(au.1 hs).1;rw[yt];constructor
 ·rintro⟨j,z,m,hz,hm,rfl⟩
  by_cases hij:i=j
  ·subst hij
   rw[aZ hil] at hz;obtain rfl:=aO hz;simp only[oH] at hm;by_cases hmk:k=m
   ·subst hmk
    rw[aZ hk] at hm;exact .inl ⟨rfl,aO hm⟩
   ·rw[bQ hmk] at hm
    refine .inr ⟨yt.2 ⟨i,s,m,hs,hm,rfl⟩,fun q=>hmk ?_⟩;exact(ob_at h hs hs hk (au.1 hm).1 (show vK e s k=vK e s m from q.symm)).2
  ·rw[bQ hij] at hz
   refine .inr ⟨yt.2 ⟨j,z,m,hz,hm,rfl⟩,fun q=>hij ?_⟩;exact(ob_at h hs hz hk (au.1 hm).1 q.symm).1
 ·rintro(⟨rfl,rfl⟩|⟨hx,hne⟩)
  ·exact⟨i,oH s k true,k,aZ hil,by simp only[oH];exact aZ hk,rfl⟩
  ·obtain⟨j,z,m,hz,hm,rfl⟩:=yt.1 hx
   by_cases hij:i=j
   ·subst hij
    rw[hs] at hz;obtain rfl:=aO hz;have hmk:k≠m:=fun q=>hne (by rw[q])
    exact⟨i,oH s k b,m,aZ hil,by simp only[oH];rw[bQ hmk];exact hm,rfl⟩
   ·exact⟨j,z,m,by rw[bQ hij];exact hz,hm,rfl⟩
theorem FQ {mn:Int} {O:List (List Int)} (hO:rM O c.L.length) (h:uR e c) (v:Int) (u:Bool):
 ((takeC mn O e c v u).2.1=0∧(takeC mn O e c v u).2.2∉qj e c.C∧∀x,x∈qj e (takeC mn O e c v u).1.C↔x=(takeC mn O e c v u).2.2∨x∈qj e c.C)∨
 ((takeC mn O e c v u).2.1≠0∧(takeC mn O e c v u).1.C=c.C):=by
 have hI':=wL (mn:=mn) (v:=v) (u:=u) hO h;revert hI';unfold takeC;by_cases hv:v<0∨(c.L.length:Int)≤v
 ·rw[if_pos hv];intro _;exact .inr ⟨sI,rfl⟩
 rw[if_neg hv];cases hb:oh v c.C c.C.length with
 |some i=>
  obtain⟨_,s,hs,_,hm⟩:=mV hb;simp only[hs];intro _;obtain⟨f1,f2,_⟩:=mX (T:=s.T) hm;refine .inl ⟨trivial,fun hx=> ?_,fun x=> ?_⟩
  ·obtain⟨j,z,m,hz,hm',he⟩:=yt.1 hx
   obtain⟨q1,q2⟩:=ob_at h hs hz f1 (au.1 hm').1 he;subst q1 q2;rw[hs] at hz;obtain rfl:=aO hz;rw[f2] at hm';cases hm'
  ·rw[obs_set h hs f1]
   constructor
   ·rintro(⟨q,_⟩|⟨q,_⟩)
    ·exact .inl q
    ·exact .inr q
   ·rintro(q|q)
    ·exact .inl ⟨q,rfl⟩
    ·by_cases hq:x=vK e s (lG s.T)
     ·exact .inl ⟨hq,rfl⟩
     ·exact .inr ⟨q,hq⟩
 |none=>
  simp only;by_cases hz:(lQ mn O c.L v 0 u).2.1=0
  ·rw[if_pos hz]
   intro hI';generalize hnd:(lQ mn O c.L v 0 u).2.2.1=nd at*
   generalize hpg:(lQ mn O c.L v 0 u).2.2.2.1=pg at*
   generalize(lQ mn O c.L v 0 u).1=L' at*
   have e1:=h.e1;have hr:=rZ h.e1 h.e2;have hnl:(kU e).length=kL e:=by unfold kU;simp
   have hob: ∀x,x∈obsS e (oH ⟨nd,pg,kU e⟩ 0 true)↔x=(nd,pg*64):=fun x=>by
    rw[Aw];constructor
    ·rintro⟨k,hk,rfl⟩
     simp only[oH] at hk;by_cases hk0:k=0
     ·subst hk0;simp[vK,oH]
     ·rw[bQ (Ne.symm hk0)] at hk
      unfold kU at hk;rw[fF] at hk;split at hk<;>simp at hk
    ·rintro rfl
     exact⟨0,by simp only[oH];exact aZ (by rw[hnl];exact hr),by simp[vK,oH]⟩
   refine .inl ⟨rfl,fun hx=> ?_,fun x=> ?_⟩
   ·obtain⟨z,hzm,m,hm,he⟩:=tH.1 hx
    have hs:=hI'.srt;have hz':=(vL (C:=c.C) (s:=oH ⟨nd,pg,kU e⟩ 0 true)).2 (.inr hzm);have hp:=VB e1 (h.len z hzm) hm;rw[←he] at hp;simp only at hp;have hpg2:z.pg=pg:=om;have hnd2:z.nd=nd:=om;unfold wC at hs;obtain⟨s1,s2,s3⟩:=dV.1 hs;rw[←bX (vZ (oH ⟨nd,pg,kU e⟩ 0 true).nd (oH ⟨nd,pg,kU e⟩ 0 true).pg c.C) c.C] at hzm;rcases aD.1 hzm with q|q
    ·have:=s3 z q _ (aG ..)
     unfold ltS ltP at this;simp only[oH] at this;omega
    ·have:=(bN.1 s2).1 z q
     unfold ltS ltP at this;simp only[oH] at this;omega
   ·constructor
    ·intro hx
     obtain⟨z,hzm,m,hm,he⟩:=tH.1 hx;rcases vL.1 hzm with q|q
     ·exact .inl ((hob x).1 (Aw.2 ⟨m,by rw[←q];exact hm,by rw[←q];exact he⟩))
     ·exact .inr (tH.2 ⟨z,q,m,hm,he⟩)
    ·rintro(q|q)
     ·obtain⟨m,hm,he⟩:=Aw.1 ((hob x).2 q)
      exact tH.2 ⟨_,vL.2 (.inl rfl),m,hm,he⟩
     ·obtain⟨z,hzm,m,hm,he⟩:=tH.1 q
      exact tH.2 ⟨z,vL.2 (.inr hzm),m,hm,he⟩
  ·rw[if_neg hz]
   intro _;exact .inr ⟨hz,rfl⟩
def backC (e:Nat) (c:Ca) (l:List Ob):Ca:=l.foldl (fun c o=>(giveC e c o).1) c
end
abbrev Hd:=List Ob×List Ob
structure De where
 c:Ca
 H:List Hd
 P:List (List Ob)
def ni (h:Hd) (P:List (List Ob)):Hd×List (List Ob):=
 if h.1=[] then(if h.2=[] then(match P.getLast? with|some m=>((m,[]),P.dropLast)|none=>(h,P)) else((h.2,[]),P)) else(h,P)
def qE (h:Hd) (P:List (List Ob)):Hd×List (List Ob):=
 if h.1.length=4 then(if h.2=[] then(([],h.1),P) else(([],h.2),P++[h.1])) else(h,P)
def p8 (d:De) (k:Int):Option Hd:=if k<0 then none else d.H[k.toNat]?
def mQ (H:List Hd):List Ob:=H.flatMap fun h=>h.1++h.2
def held (d:De):List Ob:=mQ d.H++d.P.flatten
def Ay (e:Nat) (d:De) (o:Ob):Bool:=decide (o∈qj e d.c.C)&& !decide (o∈held d)
def takeD (mn:Int) (O:List (List Int)) (e:Nat) (d:De) (k v:Int) (u:Bool):De×Nat×Ob:=match p8 d k with
 |none=>(d,2,(0,0))
 |some h=>match (ni h d.P).1.1.getLast? with
  |some o=>(⟨d.c,d.H.set k.toNat ((ni h d.P).1.1.dropLast,(ni h d.P).1.2),(ni h d.P).2⟩,0,o)
  |none=>(⟨(takeC mn O e d.c v u).1,d.H,d.P⟩,(takeC mn O e d.c v u).2.1,(takeC mn O e d.c v u).2.2)
def lI (e:Nat) (d:De) (k:Int) (o:Ob):De×Nat:=match p8 d k with
 |none=>(d,2)
 |some h=>if Ay e d o=true then(⟨d.c,d.H.set k.toNat ((qE h d.P).1.1++[o],(qE h d.P).1.2),(qE h d.P).2⟩,0) else(d,9)
def drainD (e:Nat) (d:De) (k:Int):De×Nat×Nat:=match p8 d k with
 |none=>(d,2,0)
 |some h=>(⟨backC e d.c (h.1++h.2),d.H.set k.toNat ([],[]),d.P⟩,0,(h.1++h.2).length)
def emptyD (e:Nat) (d:De):De×Nat:=(⟨backC e d.c d.P.flatten,d.H,[]⟩,d.P.flatten.length)
structure pU (e:Nat) (d:De):Prop where
 c:uR e d.c
 hl:1≤d.H.length∧d.H.length≤4
 sub: ∀o∈held d,o∈qj e d.c.C
 nd:(held d).Nodup
 h4: ∀h∈d.H,h.1.length≤4∧h.2.length≤4
 p4: ∀m∈d.P,m.length=4
theorem qH {d:De} {k:Int} {h:Hd} (q:p8 d k=some h):0≤k∧d.H[k.toNat]?=some h∧k.toNat<d.H.length∧(k.toNat:Int)=k:=by
 unfold p8 at q;split at q
 ·cases q
 ·exact⟨om,q,(au.1 q).1,om⟩
theorem xD {d:De} {k:Int} (q:p8 d k=none):k<0∨(d.H.length:Int)≤k:=by
 unfold p8 at q;split at q
 ·exact .inl ‹_›
 ·have:=List.getElem?_eq_none_iff.1 q
  exact .inr om
theorem BM (a:Ob): ∀{H:List Hd} {k:Nat} {h:Hd} (g:Hd),H[k]?=some h→(mQ (H.set k g)).count a+h.1.count a+h.2.count a=(mQ H).count a+g.1.count a+g.2.count a
 |[],k,h,g,q=>by simp at q
 |b::H,0,h,g,q=>by
  simp at q;subst q;show((g.1++g.2)++mQ H).count a+_+_=((b.1++b.2)++mQ H).count a+_+_;simp only[fZ];omega
 |b::H,k+1,h,g,q=>by
  have ih:=BM a (H:=H) (k:=k) g (by simpa using q);show((b.1++b.2)++mQ (H.set k g)).count a+_+_=((b.1++b.2)++mQ H).count a+_+_;simp only[fZ] at ih ⊢;omega
theorem VD (a:Ob) (h:Hd) (P:List (List Ob)):(ni h P).1.1.count a+(ni h P).1.2.count a+(ni h P).2.flatten.count a=h.1.count a+h.2.count a+P.flatten.count a:=by
 unfold ni;split
 ·rename_i q1
  split
  ·rename_i q2
   split
   ·rename_i m q3
    obtain⟨ys,rfl⟩:=gY.1 q3;simp[q1,q2,fZ];omega
   ·rfl
  ·simp[q1]
 ·rfl
theorem VE (a:Ob) (h:Hd) (P:List (List Ob)):(qE h P).1.1.count a+(qE h P).1.2.count a+(qE h P).2.flatten.count a=h.1.count a+h.2.count a+P.flatten.count a:=by
 unfold qE;split
 ·split
  ·rename_i q2
   simp[q2]
  ·simp[fZ];omega
 ·rfl
theorem VF {h:Hd} {P:List (List Ob)} (h1:h.1.length≤4∧h.2.length≤4) (hp: ∀m∈P,m.length=4):((ni h P).1.1.length≤4∧(ni h P).1.2.length≤4)∧∀m∈(ni h P).2,m.length=4:=by
 unfold ni;split
 ·split
  ·split
   ·rename_i m q3
    have:=hp m (List.mem_of_getLast? q3);exact⟨⟨by simp;omega,sI⟩,fun x hx=>hp x (List.dropLast_subset _ hx)⟩
   ·exact⟨h1,hp⟩
  ·exact⟨⟨h1.2,sI⟩,hp⟩
 ·exact⟨h1,hp⟩
theorem VG {h:Hd} {P:List (List Ob)} (h1:h.1.length≤4∧h.2.length≤4) (hp: ∀m∈P,m.length=4):((qE h P).1.1.length≤3∧(qE h P).1.2.length≤4)∧∀m∈(qE h P).2,m.length=4:=by
 unfold qE;split
 ·rename_i q
  split
  ·exact⟨⟨sI,by simp[q]⟩,hp⟩
  ·refine⟨⟨sI,h1.2⟩,fun x hx=> ?_⟩
   rcases aD.1 hx with r|r
   ·exact hp x r
   ·simp at r;subst r;exact q
 ·exact⟨⟨by show h.1.length≤3;omega,h1.2⟩,hp⟩
theorem pU.of {e:Nat} {d:De} (c:uR e d.c) (hl:1≤d.H.length∧d.H.length≤4) (hs: ∀a,(held d).count a≤1∧((held d).count a=1→a∈qj e d.c.C)) (h4: ∀h∈d.H,h.1.length≤4∧h.2.length≤4) (p4: ∀m∈d.P,m.length=4):pU e d:=
 ⟨c,hl,fun o ho=>(hs o).2 (by have:=(hs o).1;have:=dX.2 ho;omega),List.nodup_iff_count.2 fun a=>(hs a).1,h4,p4⟩
theorem pU.cnt {e:Nat} {d:De} (h:pU e d) (a:Ob):(held d).count a≤1∧(0<(held d).count a→a∈qj e d.c.C):=⟨List.nodup_iff_count.1 h.nd a,fun q=>h.sub a (dX.1 q)⟩
theorem Az (d:De) (a:Ob):(held d).count a=(mQ d.H).count a+d.P.flatten.count a:=by unfold held;rw[fZ]
section
variable {mn:Int} {O:List (List Int)} {e:Nat} {d:De} {k v:Int} {u:Bool} {o:Ob} {h:Hd}
theorem nI (hh:p8 d k=some h) (hl:(ni h d.P).1.1.getLast?=some o):takeD mn O e d k v u=(⟨d.c,d.H.set k.toNat ((ni h d.P).1.1.dropLast,(ni h d.P).1.2),(ni h d.P).2⟩,0,o):=by
 unfold takeD;rw[hh];simp only[hl]
theorem o8 (hh:p8 d k=some h) (hl:(ni h d.P).1.1.getLast?=none):takeD mn O e d k v u=(⟨(takeC mn O e d.c v u).1,d.H,d.P⟩,(takeC mn O e d.c v u).2.1,(takeC mn O e d.c v u).2.2):=by
 unfold takeD;rw[hh];simp only[hl]
theorem uY (hh:p8 d k=none):takeD mn O e d k v u=(d,2,(0,0)):=by unfold takeD;rw[hh]
theorem VH (hh:p8 d k=some h) (hl:(ni h d.P).1.1.getLast?=some o) (a:Ob):(held (takeD mn O e d k v u).1).count a+(if o=a then 1 else 0)=(held d).count a:=by
 rw[nI hh hl,Az,Az];obtain⟨_,h1,_⟩:=qH hh;have c1:=BM a ((ni h d.P).1.1.dropLast,(ni h d.P).1.2) h1;have c2:=VD a h d.P;obtain⟨ys,hy⟩:=gY.1 hl;simp only[hy,List.dropLast_concat,fZ,List.count_singleton,beq_iff_eq] at c1 c2 ⊢;by_cases q:o=a
 ·simp only[q,if_true] at c2 ⊢;omega
 ·simp only[q,if_false] at c2 ⊢;omega
theorem sw (hO:rM O d.c.L.length) (hI:pU e d):pU e (takeD mn O e d k v u).1:=by
 cases hh:p8 d k with
 |none=>rw[uY hh];exact hI
 |some h=>
  cases hl:(ni h d.P).1.1.getLast? with
  |some o=>
   have hc:=VH (mn:=mn) (O:=O) (e:=e) (v:=v) (u:=u) hh hl;obtain⟨k0,h1,h2,_⟩:=qH hh;have hm:=VF (hI.h4 h (aF h1)) hI.p4;rw[nI hh hl] at hc ⊢;refine pU.of hI.c (by simpa using hI.hl) (fun a=> ?_) (fun g hg=> ?_) hm.2
   ·obtain⟨a1,a2⟩:=hI.cnt a
    have:=hc a;exact⟨om,fun q=>a2 om⟩
   ·rcases dF hg with q|q
    ·exact hI.h4 g q
    ·subst q
     exact⟨by simp;omega,hm.1.2⟩
  |none=>
   rw[o8 hh hl];refine pU.of (wL hO hI.c) hI.hl (fun a=> ?_) hI.h4 hI.p4;obtain⟨a1,a2⟩:=hI.cnt a;refine⟨a1,fun q=> ?_⟩;have:=a2 (by show 0<(held d).count a;exact(by have:(held d).count a=1:=q;omega));rcases FQ (mn:=mn) (O:=O) hO hI.c v u with⟨_,_,t⟩|⟨_,t⟩
   ·exact(t a).2 (.inr this)
   ·show a∈qj e (takeC mn O e d.c v u).1.C
    rw[t];exact this
theorem Qh (hh:p8 d k=some h) (ho:Ay e d o=true) (a:Ob):(held (lI e d k o).1).count a=(held d).count a+(if o=a then 1 else 0):=by
 unfold lI;rw[hh];simp only[ho,if_true];rw[Az,Az];obtain⟨_,h1,_⟩:=qH hh;have c1:=BM a ((qE h d.P).1.1++[o],(qE h d.P).1.2) h1;have c2:=VE a h d.P;simp only[fZ,List.count_singleton,beq_iff_eq] at c1 c2 ⊢;by_cases q:o=a
 ·simp only[q,if_true] at c1 c2 ⊢;omega
 ·simp only[q,if_false] at c1 c2 ⊢;omega
theorem Qi:Ay e d o=true↔o∈qj e d.c.C∧o∉held d:=by unfold Ay;simp
theorem yO (hI:pU e d):pU e (lI e d k o).1:=by
 cases hh:p8 d k with
 |none=>
  have:lI e d k o=(d,2):=by unfold lI;rw[hh]
  rw[this];exact hI
 |some h=>
  by_cases ho:Ay e d o=true
  ·have hc:=Qh hh ho
   obtain⟨q1,q2⟩:=Qi.1 ho;obtain⟨k0,h1,h2,_⟩:=qH hh;have hm:=VG (hI.h4 h (aF h1)) hI.p4;have he:lI e d k o=(⟨d.c,d.H.set k.toNat ((qE h d.P).1.1++[o],(qE h d.P).1.2),(qE h d.P).2⟩,0):=by unfold lI;rw[hh];simp only[ho,if_true]
   rw[he] at hc ⊢;dsimp only at hc ⊢;refine pU.of hI.c (by simpa using hI.hl) (fun a=> ?_) (fun g hg=> ?_) hm.2
   ·obtain⟨a1,a2⟩:=hI.cnt a
    have:=hc a;by_cases q:o=a
    ·subst q
     have z:(held d).count o=0:=List.count_eq_zero.2 q2;simp only[if_true] at this;exact⟨om,fun _=>q1⟩
    ·simp only[q,if_false] at this
     exact⟨om,fun r=>a2 om⟩
   ·rcases dF hg with q|q
    ·exact hI.h4 g q
    ·subst q
     exact⟨by simp;omega,hm.1.2⟩
  ·have he:lI e d k o=(d,9):=by unfold lI;rw[hh];simp only[ho];rfl
   rw[he];exact hI
theorem yP: ∀{l r:List Ob},l.Nodup→(∀x∈l,x∈r)→l.length≤r.length
 |[],r,_,_=>bq _
 |a::l,r,h,hs=>by
  obtain⟨h1,h2⟩:=aS.1 h;have ha:=hs a sI;have:=yP (l:=l) (r:=r.erase a) h2 fun x hx=>(jM (fun q=>h1 (by rw[←q];exact hx))).2 (hs x (ak _ hx))
  rw[iC ha] at this;have:=List.length_pos_of_mem ha;simp only[dB];omega
theorem o9 (hI:pU e d):4*d.P.length≤(qj e d.c.C).length∧(held d).length≤(qj e d.c.C).length:=by
 have h1:=yP hI.nd hI.sub;have h2: ∀{P:List (List Ob)},(∀m∈P,m.length=4)→P.flatten.length=4*P.length:=by
  intro P;induction P with
  |nil=>intro _;rfl
  |cons a P ih=>
   intro h;simp only[List.flatten_cons,aW,dB,ih fun m hm=>h m (ak _ hm),h a sI];omega
 have h3:(held d).length=(mQ d.H).length+d.P.flatten.length:=by unfold held;simp
 rw[h2 hI.p4] at h3;omega
end
def mD (X:List Nat) (w:World) (v:Value) (l:List Ob):Prop:=
 ∃p cap,v= .slice p l.length cap∧l.length≤cap∧cap≤maxLen∧∀j a k,l[j]?=some (a,k)→∃g off,p=some ⟨g,off,none⟩∧g∉X∧g<w.heap.size∧w.cell? ⟨g,off+j*2,none⟩=some (.int .i64 a)∧w.cell? ⟨g,off+j*2+1,none⟩=some (.int .i64 k)
section
variable {X Y S:List Nat} {w w':World} {v:Value} {l:List Ob}
theorem mD.nil (X:List Nat) (w:World):mD X w (.slice none 0 0) []:=⟨none,0,rfl,aI _,bq _,fun j a k hj=>by simp at hj⟩
theorem mD.keep (h:mD X w v l) (k:Keep S w w') (hs: ∀s∈S,s∈X∨w.heap.size≤s):mD X w' v l:=by
 obtain⟨p,cap,h1,h2,h3,h4⟩:=h;refine⟨p,cap,h1,h2,h3,fun j a b hj=> ?_⟩;obtain⟨g,off,e1,e2,e3,e4,e5⟩:=h4 j a b hj;have hn:g∉S:=fun q=>by
  rcases hs g q with r|r
  ·exact e2 r
  ·omega
 exact⟨g,off,e1,e2,aC e3 k.size,(k.cell e3 hn).trans e4,(k.cell e3 hn).trans e5⟩
theorem mD.below (h:mD X w v l) (k:Below w.heap.size w w'):mD X w' v l:=h.keep (Keep.of (S:=[]) k) (fun _ q=>by cases q)
theorem mD.more (h:mD X w v l) (hY: ∀y∈Y,y∈X∨w.heap.size≤y):mD Y w v l:=by
 obtain⟨p,cap,h1,h2,h3,h4⟩:=h;refine⟨p,cap,h1,h2,h3,fun j a b hj=> ?_⟩;obtain⟨g,off,e1,e2,e3,e4,e5⟩:=h4 j a b hj;exact⟨g,off,e1,fun q=>by
  rcases hY g q with r|r
  ·exact e2 r
  ·omega,e3,e4,e5⟩
theorem mD.cut (h:mD X w v l) (n:Nat) (hn:n≤l.length): ∃p cap,v= .slice p l.length cap∧mD X w (.slice p n cap) (l.take n):=by
 obtain⟨p,cap,h1,h2,h3,h4⟩:=h;have e:(l.take n).length=n:=by rw[bD];omega
 refine⟨p,cap,h1,p,cap,by rw[e],om,h3,fun j a b hj=> ?_⟩;rw[fC] at hj;split at hj
 ·exact h4 j a b hj
 ·cases hj
theorem mD.isSlice (h:mD X w v l): ∃p cap,v= .slice p l.length cap∧l.length≤cap∧cap≤maxLen:=by
 obtain⟨p,cap,h1,h2,h3,_⟩:=h;exact⟨p,cap,h1,h2,h3⟩
theorem mD.at {p:Option Addr} {n cap:Nat} (h:mD X w (.slice p n cap) l) {j:Nat} {o:Ob} (hj:l[j]?=some o): ∃g off,p=some ⟨g,off,none⟩∧g∉X∧g<w.heap.size∧w.cell? ⟨g,off+j*2,none⟩=some (.int .i64 o.1)∧w.cell? ⟨g,off+j*2+1,none⟩=some (.int .i64 o.2):=by
 obtain⟨p',cap',h1,h2,h3,h4⟩:=h;injection h1 with h1 _ _;subst h1;exact h4 j o.1 o.2 hj
theorem qX {base:Nat} (h:w.ownsRow base 40 2 v l.length (l8 l)) (hX: ∀g,v.ownBlock=some g→g∉X):mD X w v l:=by
 have ho:=h;obtain⟨_,h2⟩:=h;rcases h2 with⟨rfl,h3⟩|⟨g,cap,cur,rfl,hg,hh,hcap,hmax,_⟩
 ·have:l=[]:=by
   cases l with
   |nil=>rfl
   |cons b r=>simp at h3
  subst this;exact mD.nil X w
 ·refine⟨some ⟨g,0,none⟩,cap,rfl,hcap,hmax,fun j a k hj=>⟨g,0,rfl,hX g rfl,(ho.lt g rfl).2,?_⟩⟩
  have hlt:j<l.length:=(au.1 hj).1;obtain⟨e1,e2⟩:=vJ l j a k hj;rw[bK,ho.cellAt (j*2) om,ho.cellAt (j*2+1) om];exact⟨e1,e2⟩
end
abbrev HV:=List (Value×Value)
def lX (V:HV):List Value:=V.flatMap fun p=>[p.1,p.2]
theorem pE: ∀{V:HV} {j:Nat} {p:Value×Value},V[j]?=some p→(lX V)[j*2]?=some p.1∧(lX V)[j*2+1]?=some p.2
 |[],j,p,h=>by simp at h
 |a::V,0,p,h=>by simp at h;subst h;simp[lX]
 |a::V,j+1,p,h=>by
  have ih:=pE (V:=V) (j:=j) (p:=p) (by simpa using h);have e:lX (a::V)=a.1::a.2::lX V:=by simp[lX]
  rw[e,show(j+1)*2=j*2+1+1 from om];simpa using ih
theorem lK (V:HV):(lX V).length=V.length*2:=by
 induction V with
 |nil=>rfl
 |cons a V ih=>simp[lX] at ih ⊢;omega
theorem yQ: ∀{V:HV} {j:Nat} (p:Value×Value),j<V.length→lX (V.set j p)=((lX V).set (j*2) p.1).set (j*2+1) p.2
 |[],j,p,h=>by simp at h
 |a::V,0,p,h=>by simp[lX]
 |a::V,j+1,p,h=>by
  have ih:=yQ (V:=V) (j:=j) p (by simpa using h);have e: ∀U:HV,lX (a::U)=a.1::a.2::lX U:=fun U=>by simp[lX]
  rw[jg,e,e,show(j+1)*2=j*2+1+1 from om,ih];simp
theorem VI:El 127 38 (.slice none 0 0) 24:=⟨Tryz.underlying127,kR,rfl,om⟩
def day (pd gh:Nat) (vp:Value):List Nat:=pd::gh::jS vp
def xd (pc:Nat) (v:Value) (A:SA) (L:List Nd) (pd gh:Nat) (vp:Value):List Nat:=day pd gh vp++(cay pc v A++ys L)
structure DepB (X:List Nat) (B:Nat) (w:World) (pd pc gh:Nat) (V:HV) (vp:Value) (U:List Value) (H:List Hd) (P:List (List Ob)):Prop where
 d:jR w pd [.pointer (some ⟨pc,0,none⟩),.slice (some ⟨gh,0,none⟩) H.length H.length,vp]
 hs:jR w gh (lX V)
 hl:V.length=H.length
 ho: ∀(i:Nat) (p:Value×Value) (h:Hd),V[i]?=some p→H[i]?=some h→mD X w p.1 h.1∧mD X w p.2 h.2
 row:w.ownsRow B 38 1 vp P.length U
 ul:U.length=P.length
 po: ∀(i:Nat) (u:Value) (m:List Ob),U[i]?=some u→P[i]?=some m→mD X w u m
 mem: ∀y∈day pd gh vp,y∈X
 nd:(day pd gh vp).Nodup
 lim: ∀y∈day pd gh vp,B≤y∧y<w.heap.size
structure CD (B:Nat) (w:World) (X:List Nat) (pd pc pz gh:Nat) (mn lw hi:Int) (O:List (List Int)) (e:Nat) (v:Value) (A:SA) (V:HV) (vp:Value) (U:List Value) (d:De):Prop where
 x: ∀y∈xd pc v A d.c.L pd gh vp,y∈X
 lim: ∀y∈X,B≤y∧y<w.heap.size
 cs:CS B w pc pz mn lw hi O e X v A d.c
 de:DepB X B w pd pc gh V vp U d.H d.P
 ne: ∀y∈day pd gh vp,y∉cay pc v A∧y∉ys d.c.L
def CDx (B:Nat) (w:World) (X F:List Nat) (pd pc pz gh:Nat) (mn lw hi:Int) (O:List (List Int)) (e:Nat) (d:De):Prop:=∃v A V vp U,CD B w X pd pc pz gh mn lw hi O e v A V vp U d∧∀f∈F,f∈X∧f∉xd pc v A d.c.L pd gh vp
section
variable {X Y S F:List Nat} {B:Nat} {w w':World} {pd pc pz gh e:Nat} {mn lw hi:Int} {O:List (List Int)} {v v' vp vp':Value} {A A':SA} {V V':HV} {U U':List Value} {d d':De} {H:List Hd} {P:List (List Ob)} {c c':Ca}
theorem CS.sub (h:CS B w pc pz mn lw hi O e X v A c) (hY: ∀y∈Y,y∈X) (h1: ∀y∈cay pc v A,y∈Y) (h2: ∀y∈ys c.L,y∈Y):CS B w pc pz mn lw hi O e Y v A c:=by
 obtain⟨qn,kn,qo,ko,z1,z2,z3⟩:=h.z.z;exact⟨⟨⟨qn,kn,qo,ko,z1,z2.sub hY,z3.sub hY⟩,h.z.b,h2,fun q=>h.z.out (hY _ q),fun x hx q=>h.z.outb x hx (hY _ q),h.z.ord,h.z.m0⟩,⟨h.ch.c,h.ch.row,h.ch.len,h.ch.sl,h1,h.ch.nd,h.ch.lim⟩,h.ne,h.l0⟩
theorem DepB.keep (h:DepB X B w pd pc gh V vp U H P) (k:Keep S w w') (hs: ∀s∈S,s∉day pd gh vp∧(s∈X∨w.heap.size≤s)):DepB X B w' pd pc gh V vp U H P:=
 ⟨h.d.keep k fun q=>(hs _ q).1 (aG ..),h.hs.keep k fun q=>(hs _ q).1 (ak _ (aG ..)),h.hl,
  fun i p g hp hg=>⟨(h.ho i p g hp hg).1.keep k fun s q=>(hs s q).2,(h.ho i p g hp hg).2.keep k fun s q=>(hs s q).2⟩,
  jQ h.row k fun s q r=>(hs s q).1 (ak _ (ak _ r)),h.ul,fun i u m hu hm=>(h.po i u m hu hm).keep k fun s q=>(hs s q).2,h.mem,h.nd,
  fun y hy=>⟨(h.lim y hy).1,aC (h.lim y hy).2 k.size⟩⟩
theorem DepB.more (h:DepB X B w pd pc gh V vp U H P) (hY: ∀y∈Y,y∈X∨w.heap.size≤y) (hm: ∀y∈day pd gh vp,y∈Y):DepB Y B w pd pc gh V vp U H P:=
 ⟨h.d,h.hs,h.hl,fun i p g hp hg=>⟨(h.ho i p g hp hg).1.more hY,(h.ho i p g hp hg).2.more hY⟩,h.row,h.ul,fun i u m hu hm'=>(h.po i u m hu hm').more hY,hm,h.nd,h.lim⟩
theorem CD.limK (h:CD B w X pd pc pz gh mn lw hi O e v A V vp U d) (k:Keep S w w'): ∀y∈X,B≤y∧y<w'.heap.size:=fun y hy=>⟨(h.lim y hy).1,aC (h.lim y hy).2 k.size⟩
theorem CD.below (h:CD B w X pd pc pz gh mn lw hi O e v A V vp U d) (k:Below w.heap.size w w'):CD B w' X pd pc pz gh mn lw hi O e v A V vp U d:=
 ⟨h.x,h.limK (Keep.of (S:=[]) k),h.cs.below k,h.de.keep (Keep.of (S:=[]) k) (fun _ q=>by cases q),h.ne⟩
def off (X F:List Nat):List Nat:=X.filter fun x=> !F.contains x
theorem jW {s:Nat}:s∈off X F↔s∈X∧s∉F:=by unfold off;simp
theorem CD.offd (h:CD B w X pd pc pz gh mn lw hi O e v A V vp U d) (hF: ∀f∈F,f∈X∧f∉xd pc v A d.c.L pd gh vp) {s:Nat} (hs:s∈xd pc v A d.c.L pd gh vp):s∈off X F:=jW.2 ⟨h.x s hs,fun q=>(hF s q).2 hs⟩
theorem CD.offy (h:CD B w X pd pc pz gh mn lw hi O e v A V vp U d) (hF: ∀f∈F,f∈X∧f∉xd pc v A d.c.L pd gh vp) {s:Nat} (hs:s∈day pd gh vp):s∈off X F:=h.offd hF (av _ hs)
theorem CDx.lim (h:CDx B w X F pd pc pz gh mn lw hi O e d): ∀x∈X,B≤x∧x<w.heap.size:=by
 obtain⟨v,A,V,vp,U,h,_⟩:=h;exact h.lim
theorem CDx.below (h:CDx B w X F pd pc pz gh mn lw hi O e d) (k:Below w.heap.size w w'):CDx B w' X F pd pc pz gh mn lw hi O e d:=by
 obtain⟨v,A,V,vp,U,h,hf⟩:=h;exact⟨v,A,V,vp,U,h.below k,hf⟩
theorem CD.other (h:CD B w X pd pc pz gh mn lw hi O e v A V vp U d) (k:Keep S w w') (hs: ∀s∈S,(s∈X∨w.heap.size≤s)∧s∉xd pc v A d.c.L pd gh vp):CD B w' X pd pc pz gh mn lw hi O e v A V vp U d:=by
 have f1: ∀s∈S,s∉day pd gh vp:=fun s q r=>(hs s q).2 (av _ r)
 have f2: ∀s∈S,s∉cay pc v A:=fun s q r=>(hs s q).2 (aj _ (av _ r))
 have f3: ∀s∈S,s∉ys d.c.L:=fun s q r=>(hs s q).2 (aj _ (aj _ r))
 exact⟨h.x,h.limK k,h.cs.keep k (fun s q=>⟨f2 s q,(hs s q).1.imp (fun r=>⟨r,f3 s q⟩) id⟩),h.de.keep k (fun s q=>⟨f1 s q,(hs s q).1⟩),h.ne⟩
theorem CD.cache (h:CD B w X pd pc pz gh mn lw hi O e v A V vp U d) (hc:CS B w' pc pz mn lw hi O e Y v' A' c') (k:Keep (cay pc v A++ys d.c.L) w w') (hY: ∀x∈X,x∈Y) (hY2: ∀x∈Y,x∈X∨w.heap.size≤x) (hv: ∀y∈cay pc v' A',y∈cay pc v A∨w.heap.size≤y) (hs:rY d.c.L c'.L):
 CD B w' (X++xd pc v' A' c'.L pd gh vp) pd pc pz gh mn lw hi O e v' A' V vp U ⟨c',d.H,d.P⟩∧(∀x∈X++xd pc v' A' c'.L pd gh vp,x∈X∨w.heap.size≤x):=by
 have ey:ys c'.L=ys d.c.L:=hs.ys;have hd: ∀y∈day pd gh vp,y∈X:=h.de.mem;have new: ∀x∈X++xd pc v' A' c'.L pd gh vp,x∈X∨w.heap.size≤x:=fun x hx=>by
  rcases aD.1 hx with q|q
  ·exact .inl q
  ·rcases aD.1 q with q|q
   ·exact .inl (hd x q)
   ·rcases aD.1 q with q|q
    ·rcases hv x q with r|r
     ·exact .inl (h.cs.ch.mem x r)
     ·exact .inr r
    ·rw[ey] at q
     exact .inl (h.cs.z.mem x q)
 have inY: ∀x∈X++xd pc v' A' c'.L pd gh vp,x∈Y:=fun x hx=>by
  rcases aD.1 hx with q|q
  ·exact hY x q
  ·rcases aD.1 q with q|q
   ·exact hY x (hd x q)
   ·rcases aD.1 q with q|q
    ·exact hc.ch.mem x q
    ·exact hc.z.mem x q
 have m1:=h.de.more (Y:=X++xd pc v' A' c'.L pd gh vp) new (fun y q=>av _ (hd y q));have m2:=m1.keep k (fun s q=>by
  rcases aD.1 q with r|r
  ·exact⟨fun t=>(h.ne s t).1 r,.inl (av _ (h.cs.ch.mem s r))⟩
  ·exact⟨fun t=>(h.ne s t).2 r,.inl (av _ (h.cs.z.mem s r))⟩)
 refine⟨⟨fun y hy=>aj _ hy,fun y hy=> ?_,hc.sub inY (fun y hy=>aj _ (aj _ (av _ hy))) (fun y hy=>aj _ (aj _ (aj _ hy))),m2,fun y hy=>⟨fun q=> ?_,fun q=> ?_⟩⟩,new⟩
 ·rcases aD.1 hy with q|q
  ·exact h.limK k y q
  ·rcases aD.1 q with q|q
   ·exact h.limK k y (hd y q)
   ·rcases aD.1 q with q|q
    ·exact hc.ch.lim y q
    ·exact hc.z.b.lim y q
 ·rcases hv y q with r|r
  ·exact(h.ne y hy).1 r
  ·have:=(h.de.lim y hy).2;omega
 ·rw[ey] at q
  exact(h.ne y hy).2 q
theorem CD.cacheF (h:CD B w X pd pc pz gh mn lw hi O e v A V vp U d) (hv: ∀y∈cay pc v' A',y∈cay pc v A∨w.heap.size≤y) (hs:rY d.c.L c'.L) (hF: ∀f∈F,f∈X∧f∉xd pc v A d.c.L pd gh vp) (hX: ∀x∈X,x∈Y):
 ∀f∈F,f∈Y∧f∉xd pc v' A' c'.L pd gh vp:=fun f hf=>by
 obtain⟨a1,a2⟩:=hF f hf;refine⟨hX f a1,fun q=> ?_⟩;rcases aD.1 q with r|r
 ·exact a2 (av _ r)
 ·rcases aD.1 r with r|r
  ·rcases hv f r with t|t
   ·exact a2 (aj _ (av _ t))
   ·have:=(h.lim f a1).2;omega
  ·rw[hs.ys] at r
   exact a2 (aj _ (aj _ r))
theorem CD.pushF (h:CD B w X pd pc pz gh mn lw hi O e v A V vp U d) (hv: ∀y∈jS vp',y∈jS vp∨w.heap.size≤y) (hF: ∀f∈F,f∈X∧f∉xd pc v A d.c.L pd gh vp) (hX: ∀x∈X,x∈Y):
 ∀f∈F,f∈Y∧f∉xd pc v A d.c.L pd gh vp':=fun f hf=>by
 obtain⟨a1,a2⟩:=hF f hf;refine⟨hX f a1,fun q=> ?_⟩;rcases aD.1 q with r|r
 ·rcases aB.1 r with rfl|r
  ·exact a2 (av _ (aG ..))
  ·rcases aB.1 r with rfl|r
   ·exact a2 (av _ (ak _ (aG ..)))
   ·rcases hv f r with t|t
    ·exact a2 (av _ (ak _ (ak _ t)))
    ·have:=(h.lim f a1).2;omega
 ·exact a2 (aj _ r)
end
section
variable {X Y S:List Nat} {B:Nat} {ev:Nat→Addr} {w w':World} {pd pc pz gh e:Nat} {mn lw hi:Int} {O:List (List Int)} {v vp:Value} {A:SA} {V:HV} {U:List Value} {d:De} {c:Ca}
def D7:Value×Value:=(.slice none 0 0,.slice none 0 0)
theorem dnew_ok (pc:Nat) (n:Nat) (w:World) (n1:1≤n) (n4:n≤4):
 Calls prog 47 #[.pointer (some ⟨pc,0,none⟩),.int .i64 n] w fun r w'=>r= .returned (.tuple #[.pointer (some ⟨w.heap.size+1,0,none⟩),.nilIface])∧w'=(w.alloc (.cells (lX (List.replicate n D7)).toArray 147)).alloc (.cells #[.pointer (some ⟨pc,0,none⟩),.slice (some ⟨w.heap.size,0,none⟩) n n,.slice none 0 0] 150):=by
 have h:n=1∨n=2∨n=3∨n=4:=om;have em:madeCells (Value.agg #[.slice none 0 0,.slice none 0 0]).cells (n*2)=(lX (List.replicate n D7)).toArray:=by rcases h with rfl|rfl|rfl|rfl<;>kernel_rfl
 have MK: ∀W:World,(Instr.makeSlice 148 (.int .i64 (n:Nat)) (.int .i64 (n:Nat))).run prog W= .ok (.slice (some ⟨W.heap.size,0,none⟩) n n) (W.alloc (.cells (lX (List.replicate n D7)).toArray 147)):=fun W=>by
  obtain⟨i0,hi0,hz0,hzs,hzb⟩:=info_parts (P:=prog) (e:=147) (z:=.agg #[.slice none 0 0,.slice none 0 0]) (size:=2) (bytes:=48) kR;have:=run_make (P:=prog) W 148 147 i0 _ Tryz.underlying148 hi0 hz0 .i64 .i64 (n:Nat) (n:Nat) om (bZ _) (by rw[hzb];omega) om;rw[this,hzs,←em];simp only[bS]
 rcases h with rfl|rfl|rfl|rfl
 ·have MK':(Instr.makeSlice 148 (.int .i64 1) (.int .i64 1)).run prog w= .ok (.slice (some ⟨w.heap.size,0,none⟩) 1 1) (w.alloc (.cells (lX (List.replicate 1 D7)).toArray 147)):=MK w
  clear MK em;go_in
  go_wp2;go_ret2
  exact⟨rfl,rfl⟩
 ·have MK':(Instr.makeSlice 148 (.int .i64 2) (.int .i64 2)).run prog w= .ok (.slice (some ⟨w.heap.size,0,none⟩) 2 2) (w.alloc (.cells (lX (List.replicate 2 D7)).toArray 147)):=MK w
  clear MK em;go_in
  go_wp2;go_ret2
  exact⟨rfl,rfl⟩
 ·have MK':(Instr.makeSlice 148 (.int .i64 3) (.int .i64 3)).run prog w= .ok (.slice (some ⟨w.heap.size,0,none⟩) 3 3) (w.alloc (.cells (lX (List.replicate 3 D7)).toArray 147)):=MK w
  clear MK em;go_in
  go_wp2;go_ret2
  exact⟨rfl,rfl⟩
 ·have MK':(Instr.makeSlice 148 (.int .i64 4) (.int .i64 4)).run prog w= .ok (.slice (some ⟨w.heap.size,0,none⟩) 4 4) (w.alloc (.cells (lX (List.replicate 4 D7)).toArray 147)):=MK w
  clear MK em;go_in
  go_wp2;go_ret2
  exact⟨rfl,rfl⟩
theorem uK (h:CD B w X pd pc pz gh mn lw hi O e v A V vp U d) (k:Nat) (hk:k<d.H.length):
 Calls prog 73 #[.pointer (some ⟨pd,0,none⟩),.int .i64 k] w fun r w'=>r= .returned (.tuple #[.pointer (some ⟨gh,k*2,none⟩),.nilIface])∧w'=w:=by
 have c0:=h.de.d.gC 0;have c1:=h.de.d.gC 1;have cl:=h.de.d.lt;obtain⟨n,hn⟩:=eY d.H.length;rw[←hn] at c1 hk;have h0:decide ((k:Int)<0)=false:=dQf om;have h1:decide ((n:Int)≤k)=false:=dQf om;have h2:(k:Int)<n:=om;clear h hn;go_in
 go_wp2;go_ret2
 exact⟨rfl,rfl⟩
theorem I4 (hE:Ap B ev w) (h:CD B w X pd pc pz gh mn lw hi O e v A V vp U d) (k:Int) (hk:k<0∨(d.H.length:Int)≤k):
 Calls prog 73 #[.pointer (some ⟨pd,0,none⟩),.int .i64 k] w fun r w'=>r= .returned (.tuple #[.pointer none,kM ev 2])∧Below w.heap.size w w':=by
 have c0:=h.de.d.gC 0;have c1:=h.de.d.gC 1;have cl:=h.de.d.lt;obtain⟨n,hn⟩:=eY d.H.length;rw[←hn] at c1 hk;have r2:=hE.c2;have e1:kM ev 2= .iface 336 (.pointer (some (ev 2))):=rfl;have l2:=aC hE.l2 hE.size;rw[e1] at r2 ⊢;clear h hn hE;by_cases h1:k<0
 ·have d1:decide (k<0)=true:=dQt h1
  go_in
  go_wp2_with fail;go_quiet (fail);go_wp2;go_ret2
  exact⟨rfl,jY⟩
 ·have d1:decide (k<0)=false:=dQf h1
  have d2:decide ((n:Int)≤k)=true:=dQt om;go_in
  go_wp2_with fail;go_quiet (fail);go_wp2;go_ret2
  exact⟨rfl,jY⟩
theorem Qj (g o:Nat) (p p':Option Addr) (n n' k k':Nat) (a b:Value) (ha:a= .slice p n k) (hb:b= .slice p' n' k') (w:World) (h0:w.cell? ⟨g,o,none⟩=some a) (h1:w.cell? ⟨g,o+1,none⟩=some b) (f0:w.frozen? ⟨g,o,none⟩=false) (f1:w.frozen? ⟨g,o+1,none⟩=false) (hl:g<w.heap.size):
 Calls prog 74 #[.pointer (some ⟨g,o,none⟩)] w fun r w'=>r= .returned (.tuple #[])∧w'=((w.setCell ⟨g,o,none⟩ b).setCell ⟨g,o+1,none⟩ a).drew:=by
 subst ha hb;go_in
 go_wp2_with fail;go_region
 exact bodyPost_end (v:=.tuple #[]) (by simp[results,Tryz.results74,go_sem]) rfl ⟨rfl,rfl⟩
end
section
variable {X Y S F:List Nat} {B:Nat} {ev:Nat→Addr} {w w':World} {pd pc pz gh e:Nat} {mn lw hi:Int} {O:List (List Int)} {v vp vp':Value} {A:SA} {V:HV} {U U':List Value} {d:De} {c:Ca} {P':List (List Ob)}
theorem CD.far (h:CD B w X pd pc pz gh mn lw hi O e v A V vp U d) (y:Nat) (hy:y∈day pd gh vp):y∈X∧y∉cay pc v A∧y∉ys d.c.L:=⟨h.de.mem y hy,h.ne y hy⟩
theorem CD.nQ (h:CD B w X pd pc pz gh mn lw hi O e v A V vp U d):gh∈day pd gh vp:=ak _ (aG ..)
theorem CD.wR (h:CD B w X pd pc pz gh mn lw hi O e v A V vp U d):pd∈day pd gh vp:=aG ..
theorem CD.yu (h:CD B w X pd pc pz gh mn lw hi O e v A V vp U d) (k:Nat) {p':Value×Value} {h':Hd} (hk:k<d.H.length) (r1:mD X w p'.1 h'.1) (r2:mD X w p'.2 h'.2) (kk:Keep [gh] w w') (hg:jR w' gh (lX (V.set k p'))):
 CD B w' X pd pc pz gh mn lw hi O e v A (V.set k p') vp U ⟨d.c,d.H.set k h',d.P⟩:=by
 obtain⟨n0,nn⟩:=aS.1 h.de.nd;obtain⟨n1,n2⟩:=aS.1 nn;have hpg:pd≠gh:=fun q=>n0 (q▸aG ..)
 have fg:=h.far gh h.nQ;have hs: ∀s∈[gh],s∈X∨w.heap.size≤s:=fun s q=>by simp at q;subst q;exact .inl fg.1
 refine⟨h.x,h.limK kk,h.cs.z.keep kk (fun s q=>by simp at q;subst q;exact .inl ⟨fg.1,fg.2.2⟩) |> fun z=>⟨z,h.cs.ch.keep kk (fun s q=>by simp at q;subst q;exact fg.2.1),h.cs.ne,h.cs.l0⟩,?_,h.ne⟩;refine⟨?_,hg,by simp[h.de.hl],fun i p g hp hg'=> ?_,jQ h.de.row kk (fun s q=>by simp at q;subst q;exact n1),h.de.ul,fun i u m hu hm=>(h.de.po i u m hu hm).keep kk hs,h.de.mem,h.de.nd,fun y hy=>⟨(h.de.lim y hy).1,aC (h.de.lim y hy).2 kk.size⟩⟩
 ·rw[cu]
  exact h.de.d.keep kk (by simpa using hpg)
 ·by_cases q:k=i
  ·subst q
   rw[aZ (by rw[h.de.hl];exact hk)] at hp;rw[aZ hk] at hg';obtain rfl:=aO hp;obtain rfl:=aO hg';exact⟨r1.keep kk hs,r2.keep kk hs⟩
  ·rw[bQ q] at hp hg'
   exact⟨(h.de.ho i p g hp hg').1.keep kk hs,(h.de.ho i p g hp hg').2.keep kk hs⟩
theorem CD.FU (h:CD B w X pd pc pz gh mn lw hi O e v A V vp U d) (k:Nat) {p':Value×Value} {h':Hd} (hk:k<d.H.length) (r1:mD X w p'.1 h'.1) (r2:mD X w p'.2 h'.2) (kk:Keep [gh,pd] w w') (hg:jR w' gh (lX (V.set k p')))
 (hd:jR w' pd [.pointer (some ⟨pc,0,none⟩),.slice (some ⟨gh,0,none⟩) d.H.length d.H.length,vp']) (row:w'.ownsRow B 38 1 vp' P'.length U') (ul:U'.length=P'.length)
 (po: ∀(i:Nat) (u:Value) (m:List Ob),U'[i]?=some u→P'[i]?=some m→mD X w u m) (hown:jS vp'=jS vp):
 CD B w' X pd pc pz gh mn lw hi O e v A (V.set k p') vp' U' ⟨d.c,d.H.set k h',P'⟩:=by
 have fg:=h.far gh h.nQ;have fp:=h.far pd h.wR;have hs: ∀s∈[gh,pd],s∈X∨w.heap.size≤s:=fun s q=>by
  simp at q;rcases q with rfl|rfl
  ·exact .inl fg.1
  ·exact .inl fp.1
 have ed:day pd gh vp'=day pd gh vp:=by unfold day;rw[hown]
 refine⟨by unfold xd;rw[ed];exact h.x,h.limK kk,h.cs.z.keep kk (fun s q=>by
  simp at q;rcases q with rfl|rfl
  ·exact .inl ⟨fg.1,fg.2.2⟩
  ·exact .inl ⟨fp.1,fp.2.2⟩) |> fun z=>⟨z,h.cs.ch.keep kk (fun s q=>by
  simp at q;rcases q with rfl|rfl
  ·exact fg.2.1
  ·exact fp.2.1),h.cs.ne,h.cs.l0⟩,?_,by rw[ed];exact h.ne⟩
 refine⟨by rw[cu];exact hd,hg,by simp[h.de.hl],fun i p g hp hg'=> ?_,row,ul,fun i u m hu hm=>(po i u m hu hm).keep kk hs,by rw[ed];exact h.de.mem,by rw[ed];exact h.de.nd,fun y hy=> ?_⟩
 ·by_cases q:k=i
  ·subst q
   rw[aZ (by rw[h.de.hl];exact hk)] at hp;rw[aZ hk] at hg';obtain rfl:=aO hp;obtain rfl:=aO hg';exact⟨r1.keep kk hs,r2.keep kk hs⟩
  ·rw[bQ q] at hp hg'
   exact⟨(h.de.ho i p g hp hg').1.keep kk hs,(h.de.ho i p g hp hg').2.keep kk hs⟩
 ·rw[ed] at hy
  exact⟨(h.de.lim y hy).1,aC (h.de.lim y hy).2 kk.size⟩
theorem CD.hand (h:CD B w X pd pc pz gh mn lw hi O e v A V vp U d) {k:Nat} {g:Hd} (hk:d.H[k]?=some g): ∃p,V[k]?=some p∧mD X w p.1 g.1∧mD X w p.2 g.2∧w.cell? ⟨gh,k*2,none⟩=some p.1∧w.cell? ⟨gh,k*2+1,none⟩=some p.2∧w.frozen? ⟨gh,k*2,none⟩=false∧w.frozen? ⟨gh,k*2+1,none⟩=false∧gh<w.heap.size:=by
 have hl:=(au.1 hk).1;obtain⟨p,hp⟩: ∃p,V[k]?=some p:=⟨V[k]'(by rw[h.de.hl];exact hl),aA _⟩;obtain⟨g1,g2⟩:=pE hp;obtain⟨o1,o2⟩:=h.de.ho k p g hp hk;have hv:V.length=d.H.length:=h.de.hl;exact⟨p,hp,o1,o2,h.de.hs.c _ _ g1,h.de.hs.c _ _ g2,h.de.hs.f _ (by rw[lK];omega),h.de.hs.f _ (by rw[lK];omega),h.de.hs.lt⟩
theorem CD.loc1 (h:CD B w X pd pc pz gh mn lw hi O e v A V vp U d) {k:Nat} {p:Value×Value} (hp:V[k]?=some p) (hk:k<d.H.length) (x:Value):jR (w.setCell ⟨gh,k*2,none⟩ x) gh (lX (V.set k (x,p.2))):=by
 have hv:V.length=d.H.length:=h.de.hl;have h1:=h.de.hs.store (k*2) x (by rw[lK];omega);rw[yQ _ om];have h2:=(pE hp).2;have e1:((lX V).set (k*2) x).set (k*2+1) p.2=(lX V).set (k*2) x:=by
  apply jy;intro i;by_cases q:k*2+1=i
  ·subst q
   rw[aZ (by rw[cu,lK];omega),bQ om,h2]
  ·rw[bQ q]
 simp only[e1];exact h1
theorem Dk {g k:Nat} {W:World} (h:jR W g (lX V)) {p:Value×Value} (hp:V[k]?=some p) (x:Value):jR (W.setCell ⟨g,k*2,none⟩ x) g (lX (V.set k (x,p.2))):=by
 have hk:=(au.1 hp).1;have h1:=h.store (k*2) x (by rw[lK];omega);rw[yQ _ hk];have h2:=(pE hp).2;have e1:((lX V).set (k*2) x).set (k*2+1) p.2=(lX V).set (k*2) x:=by
  apply jy;intro i;by_cases q:k*2+1=i
  ·subst q
   rw[aZ (by rw[cu,lK];omega),bQ om,h2]
  ·rw[bQ q]
 simp only[e1];exact h1
theorem hloc2 {g k:Nat} {W:World} (h:jR W g (lX V)) {p:Value×Value} (hp:V[k]?=some p) (x:Value):jR (W.setCell ⟨g,k*2+1,none⟩ x) g (lX (V.set k (p.1,x))):=by
 have hk:=(au.1 hp).1;have h1:=h.store (k*2+1) x (by rw[lK];omega);rw[yQ _ hk];have h2:=(pE hp).1;have e1:(lX V).set (k*2) p.1=lX V:=by
  apply jy;intro i;by_cases q:k*2=i
  ·subst q
   rw[aZ (by rw[lK];omega),h2]
  ·rw[bQ q]
 simp only[e1];exact h1
theorem JL {k:Nat} (p q:Value×Value):(V.set k p).set k q=V.set k q:=List.set_set ..
theorem Ai {k:Nat} (hk:k<V.length) (p:Value×Value):(V.set k p)[k]?=some p:=aZ hk
def uj (B:Nat) (ev:Nat→Addr) (pd pc pz gh:Nat) (mn lw hi:Int) (O:List (List Int)) (e:Nat) (X F:List Nat) (w:World) (r:De×Nat×Ob) (en:Ending) (w':World):Prop:=
 en= .returned (.tuple #[obV r.2.2,kM ev r.2.1])∧∃X',CDx B w' X' F pd pc pz gh mn lw hi O e r.1∧Keep (off X F) w w'∧(∀x∈X',x∈X∨w.heap.size≤x)∧∀x∈X,x∈X'
theorem VJ (k n:Int) (u:Bool) (hE:Ah B ev w) (h:CD B w X pd pc pz gh mn lw hi O e v A V vp U d) (hF:Hid (∀f∈F,f∈X∧f∉xd pc v A d.c.L pd gh vp)) (hk:p8 d k=none):
 Calls prog 23 #[.pointer (some ⟨pd,0,none⟩),.int .i64 k,.int .i64 n,.bool u] w (uj B ev pd pc pz gh mn lw hi O e X F w (takeD mn O e d k n u)):=by
 rw[uY hk];have b1:Below w.heap.size w (w.alloc (.cells #[.int .i64 0,.int .i64 0] 40)):=jY;have L1:=ah (jR.mk_ w [.int .i64 0,.int .i64 0] 40 rfl);have NO:=ah (I4 (hE.go b1).c (h.below b1) k (xD hk));have e1:kM ev 2= .iface 336 (.pointer (some (ev 2))):=rfl;have FIN:Hid (∀W,Below w.heap.size w W→uj B ev pd pc pz gh mn lw hi O e X F w (d,2,(0,0)) (.returned (.tuple #[.agg #[.int .i64 0,.int .i64 0],.iface 336 (.pointer (some (ev 2)))])) W):=fun W b=>⟨rfl,X,⟨_,_,_,_,_,h.below b,hF.out⟩,Keep.of b,fun _ q=>.inl q,fun _ q=>q⟩
 rw[e1] at NO;clear h hk hE e1 b1;go_in
 go_wp2_with fail;refine NO.out.mono ?_;rintro r w1 ⟨rfl,hb1⟩;have M:=L1.out.go hb1;have m0:=M.gC 0;have m1:=M.gC 1;have f0:=M.f 0 sI;have f1:=M.f 1 sI;have ml:=M.lt;have HM:=ah (M.lq (.int .i64 0) (.int .i64 0));clear M NO L1;go_wp2;have x0:=HM.out.gC 0;have x1:=HM.out.gC 1;exact bodyPost_ret (v:=.tuple #[.agg #[.int .i64 0,.int .i64 0],.iface 336 (.pointer (some (ev 2)))]) (by simp[x0,x1,results,jh,go_sem]) rfl (FIN.out _ jY)
end
section
variable {X:List Nat} {w:World} {v:Value} {l:List Ob}
theorem Qk (o:Ob): ∀l:List Ob,(o∉l)∨∃m,l[m]?=some o∧∀(j:Nat) (y:Ob),j<m→l[j]?=some y→y≠o
 |[]=>.inl sI
 |a::l=>by
  by_cases h:a=o
  ·exact .inr ⟨0,by simp[h],fun j y hj=>om⟩
  ·rcases Qk o l with q|⟨m,q1,q2⟩
   ·exact .inl (by simp;exact⟨fun r=>h r.symm,q⟩)
   ·refine .inr ⟨m+1,by simpa using q1,fun j y hj hy=> ?_⟩
    cases j with
    |zero=>simp at hy;subst hy;exact h
    |succ j=>exact q2 j y om (by simpa using hy)
theorem Ql (o:Ob) (h:mD X w v l) (hl:l.length≤65536) (m:Nat) (hm:m≤l.length) (hno: ∀(j:Nat) (y:Ob),j<m→l[j]?=some y→y≠o) (res:Int) (hres:(m=l.length∧res= -1)∨(l[m]?=some o∧res=m)):
 Calls prog 186 #[v,.agg #[.int .i64 o.1,.int .i64 o.2]] w fun r w'=>r= .returned (.int .i64 res)∧Below w.heap.size w w':=by
 obtain⟨p,cap,rfl,hc1,hc2,_⟩:=id h;have b0:Below w.heap.size w (w.alloc (.cells #[.int .i64 o.1,.int .i64 o.2] 40)):=jY;have HL:=ah (show jR (w.alloc (.cells #[.int .i64 o.1,.int .i64 o.2] 40)) w.heap.size [.int .i64 o.1,.int .i64 o.2] from jR.mk_ w [.int .i64 o.1,.int .i64 o.2] 40 rfl);have H:=ah h;have Vs:=ah hno;have Hu:=ah hres;obtain⟨n,hn⟩:=eY l.length;have EN:=ah hn;rw[←hn] at hl hm ⊢;have eb:=eqO;have gb:=wQ;clear h hno hres hn hc1 hc2;go_in
 go_wp2_with fail;go_loopw [5,8] (fun _ iv wr=>∃i:Nat,i≤m∧iv= .int .i64 i∧Below w.heap.size (w.alloc (.cells #[.int .i64 o.1,.int .i64 o.2] 40)) wr∧Below w.heap.size w wr∧Hid (jR wr w.heap.size [.int .i64 o.1,.int .i64 o.2])) (fun _ iv _=>n-(intOf iv).toNat);case atStart=>exact⟨0,om,by go_num,aL _ _,b0,HL⟩
 case round=>
  obtain⟨i,hile,rfl,hbel0,hbel,HLr⟩:=hrel;have BW:Hid (∀W,Below wr.heap.size wr W→Below w.heap.size (w.alloc (.cells #[.int .i64 o.1,.int .i64 o.2] 40)) W∧Below w.heap.size w W∧Hid (jR W w.heap.size [.int .i64 o.1,.int .i64 o.2])):=fun W b=>⟨hbel0.trans (b.mono hbel.size),hbel.trans (b.mono hbel.size),HLr.out.go b⟩
  have m0:=HLr.out.gC 0;have m1:=HLr.out.gC 1;have ml:=HLr.out.lt;by_cases hin:i<n
  ·obtain⟨y,hy⟩: ∃y,l[i]?=some y:=⟨l[i]'(by rw[←EN.out];exact hin),aA _⟩
   obtain⟨g,off,rfl,_,gl,c0,c1⟩:=((show mD X w (.slice p n cap) l by rw[EN.out];exact H.out).below hbel).at hy;have j1:(i:Int)<(n:Int):=om;by_cases e1:y=o
   ·have hm':i=m:=by
     rcases dU i m with q|q
     ·exact absurd e1 (Vs.out i y q hy)
     ·omega
    have hr:res=(i:Int):=by
     rcases Hu.out with⟨q1,_⟩|⟨_,q2⟩
     ·have:=EN.out;omega
     ·rw[q2,hm']
    subst e1 hr;clear hy hm';go_wp2_with fail;go_quiet (fail);go_wp2;go_ret;exact⟨rfl,(BW.out _ jY).2.1⟩
   ·have HNX:Hid (i+1≤m):=by
     rcases dU i m with q|q
     ·exact q
     ·exfalso
      have q':i=m:=om;rcases Hu.out with⟨q1,_⟩|⟨q2,_⟩
      ·have:=EN.out;omega
      ·rw[←q',hy] at q2;exact e1 (aO q2)
    have hb:(o.1==y.1&&o.2==y.2)=false:=by
     cases q:(o.1==y.1&&o.2==y.2) with
     |false=>rfl
     |true=>
      simp at q;exact absurd (Prod.ext q.1.symm q.2.symm) e1
    clear hy e1;go_wp2_with fail;go_quiet (fail);go_wp2;go_round
    case rel=>exact⟨i+1,HNX.out,by go_num,BW.out _ jY⟩
    case measure=>simp[intOf];omega
  ·have hr:res= -1:=by
    rcases Hu.out with⟨_,q⟩|⟨q,_⟩
    ·exact q
    ·have:=(au.1 q).1
     have:=EN.out;omega
   subst hr;go_wp2;go_ret;exact⟨rfl,(BW.out _ (aL _ _)).2.1⟩
theorem VO (o:Ob) (h:mD X w v l) (hl:l.length≤65536):
 Calls prog 155 #[v,.agg #[.int .i64 o.1,.int .i64 o.2]] w fun r w'=>r= .returned (.bool (decide (o∈l)))∧Below w.heap.size w w':=by
 have b0:Below w.heap.size w (w.alloc (.cells #[.int .i64 o.1,.int .i64 o.2] 40)):=jY;have HB:=ah b0;rcases Qk o l with q|⟨m,q1,q2⟩
 ·have IX:=ah (Ql o (h.below b0) hl l.length (aI _) (fun j y _ hy e=>q (e▸aF hy)) (-1) (.inl ⟨rfl,rfl⟩))
  have d:decide (o∈l)=false:=dQf q;rw[d];clear h d q b0;go_in
  go_wp2_with fail;refine IX.out.mono ?_;rintro r w1 ⟨rfl,hb1⟩;go_wp2;go_ret;exact⟨rfl,HB.out.trans (hb1.mono sI)⟩
 ·have IX:=ah (Ql o (h.below b0) hl m (jK (au.1 q1).1) q2 m (.inr ⟨q1,rfl⟩))
  have d:decide (o∈l)=true:=dQt (aF q1);have dm:decide ((0:Int)≤(m:Int))=true:=dQt om;rw[d];clear h d q1 q2 b0;go_in
  go_wp2_with fail;refine IX.out.mono ?_;rintro r w1 ⟨rfl,hb1⟩;go_wp2;go_ret;exact⟨rfl,HB.out.trans (hb1.mono sI)⟩
def liesF (b:Nat):Value:=.func (.func 157) #[] #[.pointer (some ⟨b,0,none⟩)]
theorem VP (o:Ob) (b:Nat) (h:mD X w v l) (hl:l.length≤65536) (hb:jR w b [.int .i64 o.1,.int .i64 o.2]):
 Calls prog 157 #[v,.pointer (some ⟨b,0,none⟩)] w fun r w'=>r= .returned (.bool (decide (o∈l)))∧Below w.heap.size w w':=by
 have HH:=ah (VO o h hl);have c0:=hb.gC 0;have c1:=hb.gC 1;have cl:=hb.lt;obtain⟨bb,hbb⟩:=eY (decide (o∈l));rw[←hbb] at HH ⊢;clear h hbb;go_in
 go_wp2_with fail;refine HH.out.mono ?_;rintro r w1 ⟨rfl,hb1⟩;go_wp2;go_ret;exact⟨rfl,hb1⟩
end
theorem DepB.pile {X:List Nat} {B:Nat} {w:World} {pd pc gh:Nat} {V:HV} {vp:Value} {U:List Value} {H:List Hd} {P:List (List Ob)} (h:DepB X B w pd pc gh V vp U H P):
 ∃q k,vp= .slice q P.length k∧P.length≤k∧k≤maxLen∧∀(j:Nat) (m:List Ob),P[j]?=some m→∃g p c,q=some ⟨g,0,none⟩∧g<w.heap.size∧w.cell? ⟨g,j,none⟩=some (.slice p m.length c)∧mD X w (.slice p m.length c) m:=by
 have ho:=h.row;have hul:=h.ul;rcases h.row.2 with⟨rfl,h3⟩|⟨g,cap,cur,rfl,hg,hh,hcap,hmax,_⟩
 ·refine⟨none,0,by rw[h3],om,by unfold maxLen;omega,fun j m hj=> ?_⟩
  have:=(au.1 hj).1;omega
 ·refine⟨some ⟨g,0,none⟩,cap,rfl,hcap,hmax,fun j m hj=> ?_⟩
  have hlt:=(au.1 hj).1;obtain⟨u,hu⟩: ∃u,U[j]?=some u:=⟨U[j]' om,aA _⟩;have r:=h.po j u m hu hj;obtain⟨p,c,rfl,_,_⟩:=r.isSlice;exact⟨g,p,c,rfl,(ho.lt g rfl).2,by rw[ho.cellAt j om];exact hu,r⟩
theorem I6 (o:Ob): ∀P:List (List Ob),(∀m∈P,o∉m)∨∃(i:Nat) (m:List Ob),P[i]?=some m∧o∈m∧∀(j:Nat) (y:List Ob),j<i→P[j]?=some y→o∉y
 |[]=>.inl (fun m hm=>by cases hm)
 |a::P=>by
  by_cases h:o∈a
  ·exact .inr ⟨0,a,rfl,h,fun j y hj=>om⟩
  ·rcases I6 o P with q|⟨i,m,q1,q2,q3⟩
   ·refine .inl fun m hm=> ?_
    rcases aB.1 hm with rfl|r
    ·exact h
    ·exact q m r
   ·refine .inr ⟨i+1,m,by simpa using q1,q2,fun j y hj hy=> ?_⟩
    cases j with
    |zero=>simp at hy;subst hy;exact h
    |succ j=>exact q3 j y om (by simpa using hy)
section
variable {X:List Nat} {w:World}
theorem I7 (o:Ob) (b:Nat) (q:Option Addr) (k:Nat) (P:List (List Ob)) (hp4: ∀m∈P,m.length=4) (hpl:P.length≤65536)
 (hrow: ∀(j:Nat) (m:List Ob),P[j]?=some m→∃g p c,q=some ⟨g,0,none⟩∧g<w.heap.size∧w.cell? ⟨g,j,none⟩=some (.slice p m.length c)∧mD X w (.slice p m.length c) m) (hb:jR w b [.int .i64 o.1,.int .i64 o.2])
 (i0:Nat) (hm:i0≤P.length) (hno: ∀(j:Nat) (y:List Ob),j<i0→P[j]?=some y→o∉y) (res:Int) (hres:(i0=P.length∧res= -1)∨((∃m,P[i0]?=some m∧o∈m)∧res=i0)):
 Calls prog 187 #[.slice q P.length k,liesF b] w fun r w'=>r= .returned (.int .i64 res)∧Below w.heap.size w w':=by
 have D6:=ah hrow;have Vs:=ah hno;have Hu:=ah hres;have HB:=ah hb;have HP4:=ah hp4;obtain⟨n,hn⟩:=eY P.length;have EN:=ah hn;rw[←hn] at hpl hm ⊢;unfold liesF;clear hrow hno hres hn hb hp4;go_in
 go_wp2_with fail;go_loopw [5,8] (fun _ iv wr=>∃i:Nat,i≤i0∧iv= .int .i64 i∧Below w.heap.size w wr) (fun _ iv _=>n-(intOf iv).toNat);case atStart=>exact⟨0,om,by go_num,aL _ _⟩
 case round=>
  obtain⟨i,hile,rfl,hbel⟩:=hrel;have zr:=hbel.size;by_cases hin:i<n
  ·obtain⟨y,hy⟩: ∃y,P[i]?=some y:=⟨P[i]'(by rw[←EN.out];exact hin),aA _⟩
   obtain⟨g,p,c,rfl,gl,c0,ro⟩:=D6.out i y hy;have c0':=(hbel.cell (p:=⟨g,i,none⟩) gl).trans c0;have gl':g<wr.heap.size:=om;have j1:(i:Int)<(n:Int):=om;have y4:=HP4.out y (aF hy);have LI:=ah (VP o b (ro.below hbel) om (HB.out.go hbel));rw[y4] at c0' LI;by_cases e1:o∈y
   ·have d:decide (o∈y)=true:=dQt e1
    have hm':i=i0:=by
     rcases dU i i0 with q|q
     ·exact absurd e1 (Vs.out i y q hy)
     ·omega
    have hr:res=(i:Int):=by
     rcases Hu.out with⟨q1,_⟩|⟨_,q2⟩
     ·have:=EN.out;omega
     ·rw[q2,hm']
    rw[d] at LI;subst hr;clear hy hm' c0 ro d e1;go_wp2_with fail;refine LI.out.mono ?_;rintro r w1 ⟨rfl,hb1⟩;go_wp2;go_ret;exact⟨rfl,hbel.trans (hb1.mono zr)⟩
   ·have d:decide (o∈y)=false:=dQf e1
    have HNX:Hid (i+1≤i0):=by
     rcases dU i i0 with q|q
     ·exact q
     ·exfalso
      have q':i=i0:=om;rcases Hu.out with⟨q1,_⟩|⟨⟨m,q2,q3⟩,_⟩
      ·have:=EN.out;omega
      ·rw[←q',hy] at q2;exact e1 (by rw[aO q2];exact q3)
    rw[d] at LI;clear hy c0 ro d e1;go_wp2_with fail;refine LI.out.mono ?_;rintro r w1 ⟨rfl,hb1⟩;go_wp2;go_round
    case rel=>exact⟨i+1,HNX.out,by go_num,hbel.trans (hb1.mono zr)⟩
    case measure=>simp[intOf];omega
  ·have hr:res= -1:=by
    rcases Hu.out with⟨_,q⟩|⟨⟨m,q,_⟩,_⟩
    ·exact q
    ·have:=(au.1 q).1
     have:=EN.out;omega
   subst hr;go_wp2;go_ret;exact⟨rfl,hbel⟩
theorem I8 (o:Ob) (b:Nat) (q:Option Addr) (k:Nat) (P:List (List Ob)) (hp4: ∀m∈P,m.length=4) (hpl:P.length≤65536)
 (hrow: ∀(j:Nat) (m:List Ob),P[j]?=some m→∃g p c,q=some ⟨g,0,none⟩∧g<w.heap.size∧w.cell? ⟨g,j,none⟩=some (.slice p m.length c)∧mD X w (.slice p m.length c) m) (hb:jR w b [.int .i64 o.1,.int .i64 o.2]):
 Calls prog 156 #[.slice q P.length k,liesF b] w fun r w'=>r= .returned (.bool (decide (o∈P.flatten)))∧Below w.heap.size w w':=by
 rcases I6 o P with h|⟨i,m,h1,h2,h3⟩
 ·have IX:=ah (I7 (X:=X) o b q k P hp4 hpl hrow hb P.length (aI _) (fun j y _ hy=>h y (aF hy)) (-1) (.inl ⟨rfl,rfl⟩))
  have d:decide (o∈P.flatten)=false:=dQf (fun r=>by
   obtain⟨m,r1,r2⟩:=List.mem_flatten.1 r;exact h m r1 r2)
  rw[d];clear hrow hb h d hp4;obtain⟨n,hn⟩:=eY P.length;rw[←hn] at IX ⊢;clear hn;go_in
  go_wp2_with fail;refine IX.out.mono ?_;rintro r w1 ⟨rfl,hb1⟩;go_wp2;go_ret;exact⟨rfl,hb1⟩
 ·have IX:=ah (I7 (X:=X) o b q k P hp4 hpl hrow hb i (jK (au.1 h1).1) h3 i (.inr ⟨⟨m,h1,h2⟩,rfl⟩))
  have d:decide (o∈P.flatten)=true:=dQt (List.mem_flatten.2 ⟨m,aF h1,h2⟩);have dm:decide ((0:Int)≤(i:Int))=true:=dQt om;rw[d];clear hrow hb h1 h2 h3 d hp4;obtain⟨n,hn⟩:=eY P.length;rw[←hn] at IX ⊢;clear hn;go_in
  go_wp2_with fail;refine IX.out.mono ?_;rintro r w1 ⟨rfl,hb1⟩;go_wp2;go_ret;exact⟨rfl,hb1⟩
end
structure Je (B:Nat) (ev:Nat→Addr) (w:World):Prop where
 z:Ah B ev w
 l9:5<B
 c9:w.cell? ⟨5,0,none⟩=some (kM ev 9)
theorem Je.below {B:Nat} {ev:Nat→Addr} {w w':World} (h:Je B ev w) (hb:Below B w w'):Je B ev w':=⟨h.z.below hb,h.l9,by rw[hb.cell (p:=⟨5,0,none⟩) h.l9];exact h.c9⟩
theorem Je.size {B:Nat} {ev:Nat→Addr} {w:World} (h:Je B ev w):B≤w.heap.size:=h.z.size
theorem Je.go {B:Nat} {ev:Nat→Addr} {w w':World} (h:Je B ev w) (hb:Below w.heap.size w w'):Je B ev w':=h.below (hb.mono h.size)
theorem qC.s {B:Nat} {ev:Nat→Addr} {w:World} (h:qC B ev w):Je B ev w:=⟨h.z,h.glob 9 (by decide) (by decide),h.cell 9 (by decide) (by decide)⟩
section
variable {X Y S:List Nat} {B:Nat} {ev:Nat→Addr} {w w':World} {pd pc pz gh e:Nat} {mn lw hi:Int} {O:List (List Int)} {v vp vp':Value} {A:SA} {V:HV} {U U':List Value} {d:De} {c:Ca} {P':List (List Ob)}
theorem AA (q:Option Addr) (n cap:Nat) (w:World) (hq:q=none→n=0) (hn:n≤cap):
 Calls prog 67 #[.slice q n cap] w fun e w'=>e= .returned (.slice q n n)∧w'=w:=by
 cases q with
 |none=>
  have:=hq rfl;subst this;by_cases hc:cap=0
  ·subst hc
   go_in
   go_wp2;go_ret;exact⟨rfl,rfl⟩
  ·go_in
   go_wp2;go_ret;exact⟨rfl,rfl⟩
 |some a=>
  obtain⟨g,o,p⟩:=a;have h1:(n:Int)≤(cap:Int):=om;go_in
  go_wp2;go_ret;exact⟨rfl,rfl⟩
theorem run_appO {q:Option Addr} {l:List Ob} (h:mD X w (.slice q l.length l.length) l) (hl:l.length≤65536) (ty:TypeId) {a:Addr} {cp:Nat} {o:Ob} (h0:w.cell? (a.add 0)=some (.int .i64 o.1)) (h1:w.cell? (a.add 1)=some (.int .i64 o.2)):
 ∃g k w',(Builtin.append_ #[38,38] ty #[.slice q l.length l.length,.slice (some a) 1 cp]).run prog w= .ok (.slice (some ⟨g,0,none⟩) (l.length+1) k) w'∧w'.ownsRow w.heap.size 40 2 (.slice (some ⟨g,0,none⟩) (l.length+1) k) (l.length+1) (l8 (l++[o]))∧Below w.heap.size w w':=by
 obtain⟨i0,hi,hz0,hz1,hz2⟩:=info_parts (P:=prog) (e:=40) (z:=.agg #[.int .i64 0,.int .i64 0]) (size:=2) (bytes:=16) kR;have hms: ∀(j:Nat) (u:Value),[Value.int .i64 o.1,.int .i64 o.2][j]?=some u→w.cell? (a.add j)=some u:=fun j u hj=>by
  cases j with
  |zero=>simp at hj;subst hj;exact h0
  |succ j=>
   cases j with
   |zero=>simp at hj;subst hj;exact h1
   |succ j=>simp at hj
 have fin: ∀v' w',w'.ownsRow w.heap.size 40 2 v' (l.length+1) (l8 (l++[o]))→w.grownBy w' none→∃g k,v'= .slice (some ⟨g,0,none⟩) (l.length+1) k:=fun v' w' ho _=>by
  rcases ho.2 with⟨rfl,h3⟩|⟨g,cap,cur,rfl,_⟩
  ·exact absurd h3 om
  ·exact⟨g,cap,rfl⟩
 have elen:(l8 l).length=l.length*2:=by rw[lU];omega
 cases q with
 |none=>
  obtain⟨p',cap',e1,e2,e3,e4⟩:=h;have hl0:l=[]:=by
   have e5:=(fu e1).1;clear e1 fin elen hms;cases l with
   |nil=>rfl
   |cons b r=>
    obtain⟨g,off,t,_⟩:=e4 0 b.1 b.2 rfl;rw[←e5] at t;cases t
  subst hl0;obtain⟨v',w',hrun,h2,h3,_⟩:=run_append_own_at (P:=prog) w w.heap.size 38 ty 40 i0 _ 2 16 Tryz.underlying38 hi hz0 hz1 hz2 rfl om (.slice none 0 0) 0 [] (aT _ _ _ _) a 1 cp [.int .i64 o.1,.int .i64 o.2] sI hms (by intro u hu;simp at hu;rcases hu with rfl|rfl<;>rfl) (by unfold maxLen;omega) om (aI _);have hg:w.grownBy w' none:=h3;obtain⟨g,k,rfl⟩:=fin v' w' (by simpa[l8] using h2) hg;exact⟨g,k,w',by simpa using hrun,by simpa[l8] using h2,(aL _ _).grown hg (aI _) (fun k q=>by cases q)⟩
 |some b=>
  have holds: ∀(j:Nat) (u:Value),(l8 l)[j]?=some u→w.cell? (b.add j)=some u:=fun j u hj=>by
   have hjl:=(au.1 hj).1;rw[elen] at hjl;obtain⟨y,hy⟩: ∃y,l[j / 2]?=some y:=⟨l[j / 2]' om,aA _⟩;obtain⟨g,off,t,_,_,c0,c1⟩:=h.at hy;obtain rfl:=aO t;obtain⟨e1,e2⟩:=vJ l (j / 2) y.1 y.2 hy;rw[addr_add];have:j=j / 2*2∨j=j / 2*2+1:=om;rcases this with q|q
   ·rw[q] at hj
    rw[e1] at hj;obtain rfl:=aO hj;rw[q];exact c0
   ·rw[q] at hj
    rw[e2] at hj;obtain rfl:=aO hj;rw[q];exact c1
  obtain⟨v',w',hrun,h2,h3⟩:=run_append_arg_grows (P:=prog) w 38 ty 40 i0 _ 2 16 Tryz.underlying38 hi hz0 hz1 hz2 rfl om b l.length l.length (l8 l) elen holds a 1 cp [.int .i64 o.1,.int .i64 o.2] sI hms om (by unfold maxLen;omega) om;rw[←lY] at h2;obtain⟨g,k,rfl⟩:=fin v' w' h2 h3;exact⟨g,k,w',hrun,h2,(aL _ _).grown h3 (aI _) (fun k q=>by cases q)⟩
theorem qY {P:Program} {ops:Array Oper} {o:Oper} {a:Act} {w:World} {K:Act→World→Prop} {Q:Exit→Act→World→Prop} {F:Prop} (hg:o.guard=none)
 (f:FuncId) (args:Array Value) (hrun:(execOp a.eval o).run P w= .ok (.enter f args) w) (v:Value) (w':World) (hc:Calls P f args w fun e w''=>e= .returned v∧w''=w') (hK:K (a.put o.dst v) w'):
 if Region.wanted o (yielded ops a.tmps)=true then Oper.wp P o a w K Q else F:=by
 have hw:Region.wanted o (yielded ops a.tmps)=true:=by simp[Region.wanted,hg]
 rw[if_pos hw];unfold Oper.wp;rw[hrun,Oper.upon_enter];refine hc.mono fun e w'' hh=> ?_
 obtain⟨rfl,rfl⟩:=hh;exact hK
theorem VR {ops:Array Oper} {o:Oper} {a:Act} {K:Act→World→Prop} {Q:Exit→Act→World→Prop} {F:Prop} {q:Option Addr} {l:List Ob} (hgd:o.guard=none) (s x:Operand)
 (hop:o.op= .call {callee:=.builtin .append,args:=#[s,x],argTypes:=#[38,38]}) (hs:a.eval s= .slice q l.length l.length) {ad:Addr} {cp:Nat} (hx:a.eval x= .slice (some ad) 1 cp)
 (h:mD X w (.slice q l.length l.length) l) (hl:l.length≤65536) {ob:Ob} (h0:w.cell? (ad.add 0)=some (.int .i64 ob.1)) (h1:w.cell? (ad.add 1)=some (.int .i64 ob.2))
 (hK: ∀g k w',w'.ownsRow w.heap.size 40 2 (.slice (some ⟨g,0,none⟩) (l.length+1) k) (l.length+1) (l8 (l++[ob]))→Below w.heap.size w w'→K (a.put o.dst (.slice (some ⟨g,0,none⟩) (l.length+1) k)) w'):
 if Region.wanted o (yielded ops a.tmps)=true then Oper.wp prog o a w K Q else F:=by
 have hw:Region.wanted o (yielded ops a.tmps)=true:=by simp[Region.wanted,hgd]
 rw[if_pos hw];obtain⟨g,k,w',hrun,h2,h3⟩:=run_appO h hl o.type h0 h1 (cp:=cp);unfold Oper.wp execOp;simp only[hop,resolve,invoke,builtin,fH,fQ,dZ,eD,bH,eu,hs,hx,hrun];exact hK g k w' h2 h3
theorem sD {ops:Array Oper} {o:Oper} {a:Act} {K:Act→World→Prop} {Q:Exit→Act→World→Prop} {F:Prop} {q:Option Addr} {n:Nat} {l:List Ob} (hn:n=l.length) (hgd:o.guard=none) (s x:Operand)
 (hop:o.op= .call {callee:=.builtin .append,args:=#[s,x],argTypes:=#[38,38]}) (hs:a.eval s= .slice q n n) {ad:Addr} {cp:Nat} (hx:a.eval x= .slice (some ad) 1 cp)
 (h:mD X w (.slice q l.length l.length) l) (hl:n≤65536) {ob:Ob} (h0:w.cell? (ad.add 0)=some (.int .i64 ob.1)) (h1:w.cell? (ad.add 1)=some (.int .i64 ob.2))
 (hK: ∀g k w',w'.ownsRow w.heap.size 40 2 (.slice (some ⟨g,0,none⟩) (n+1) k) (n+1) (l8 (l++[ob]))→Below w.heap.size w w'→K (a.put o.dst (.slice (some ⟨g,0,none⟩) (n+1) k)) w'):
 if Region.wanted o (yielded ops a.tmps)=true then Oper.wp prog o a w K Q else F:=by
 subst hn;exact VR hgd s x hop hs hx h hl h0 h1 hK
end
section
variable {X Y S F G:List Nat} {B:Nat} {ev:Nat→Addr} {w w' w0 w1:World} {pd pc pz gh e:Nat} {mn lw hi:Int} {O:List (List Int)} {v vp:Value} {A:SA} {V:HV} {U:List Value} {d d':De} {c c':Ca}
def DrnPost (B:Nat) (ev:Nat→Addr) (pd pc pz gh:Nat) (mn lw hi:Int) (O:List (List Int)) (e:Nat) (X F:List Nat) (w:World) (r:De×Nat×Nat) (en:Ending) (w':World):Prop:=
 en= .returned (.tuple #[.int .i64 r.2.2,kM ev r.2.1])∧CDx B w' X F pd pc pz gh mn lw hi O e r.1∧Keep (off X F) w w'
end
