/- Lemmas and contracts for the claim's last text: SFull, SFullW, SApart, DPl, DB, DOps, DDrain. -/
import Derived.Test.YtehhldljdakgeaaGreatDoorQa01
import Derived.Test.YtehhldljdakgeaaGreatDoorQa12
set_option linter.unusedSimpArgs false
set_option linter.unusedVariables false
set_option maxHeartbeats 16000000
set_option maxRecDepth 100000
namespace Go.Proofs.YtehhldljdakgeaaGreatDoor
open Go.RowKit Go.Maps
attribute [local go_sem ↓] aJ aK
theorem Oa {n:Int} {F T:List (Int×Int)} (h:Inv n F T) (hs:nI F=0):F=[]:=by
 cases F with
 |nil=>rfl
 |cons p r=>
  have h1:=nZ r;have h2:nI (p::r)=sz p.2+nI r:=rfl;have h3:0<sz p.2:=oJ _;omega
theorem U8 {n:Int} {F T:List (Int×Int)} (h:Inv n F T) (hb:mq 0 F=none):nI F=0:=by
 cases F with
 |nil=>rfl
 |cons p r=>
  have:=Cm hb p sI;have:=(h.rngF (p:=p) sI).2.2.1;omega
theorem take_one {mn:Int} {O:List (List Int)} {x:Nd} (hO:qY O 1) (hI:Inv x.n x.F x.T):
 (nI x.F=0→kU mn O [x] 0 0 true=([x],5,(0,0,0)))∧
 (0<nI x.F→∃b,mq 0 x.F=some b∧yu x.T b.1=none∧kU mn O [x] 0 0 true=([wE 0 b x],0,(0,b.1,0))):=by
 obtain⟨D,hD,hl,hm,hc⟩:=wF (mn:=mn) (u:=true) (k:=0) (L:=[x]) (v:=0) (by simpa using hO) sI;have h0:(0:Int)∈D:=(hm 0).2 sI;rcases hc with⟨hp,e⟩|⟨j,y,b,hp,j0,j1,hx,hk,hb,e⟩
 ·have hn:Bp mn 0 true [x] 0=false:=by
   have:=fZ.1 hp 0 h0;simpa using this
  have hb:mq 0 x.F=none:=by
   simp only[Bp,okN,mayN,Int.toNat_zero,List.getElem?_cons_zero,Bool.true_or,Bool.true_and] at hn;cases hq:mq 0 x.F with
   |none=>rfl
   |some b=>rw[hq] at hn;cases hn
  have hs:=U8 hI hb;have hF:=Oa hI hs;refine⟨fun _=> ?_,fun q=>om⟩;rw[e];have:Cx 0 [x]=5:=by unfold Cx wY;simp[hF]
  rw[this]
 ·obtain rfl:j=0:=by simp at j1;omega
  simp at hx;subst hx;refine⟨fun q=> ?_,fun _=>⟨b,hb,CG hI (nu hb).1,by rw[e];rfl⟩⟩;have:=Oa hI q;have h2:=(nu hb).1;rw[this] at h2;cases h2
theorem sum_ins (f:Sl→Nat) (C:List Sl) (s:Sl):((uJ C s).map f).sum=(C.map f).sum+f s:=by
 have:((C.take (uF s.nd s.pg C)).map f).sum+((C.drop (uF s.nd s.pg C)).map f).sum=(C.map f).sum:=by
  rw[←List.sum_append,←dI,bX]
 unfold uJ;simp only[dI,bP,List.sum_append,List.sum_cons];omega
theorem U9 (f:Sl→Nat): ∀(C:List Sl) (i:Nat) (s t:Sl),C[i]?=some s→((C.set i t).map f).sum+f s=(C.map f).sum+f t
 |[],i,s,t,h=>by simp at h
 |c::C,0,s,t,h=>by simp at h;subst h;simp;omega
 |c::C,i+1,s,t,h=>by
  have:=U9 f C i s t (by simpa using h);simp only[iW,bP,List.sum_cons];omega
theorem DT (f:Sl→Nat) (r:Nat): ∀(C:List Sl),(∀s∈C,f s=r)→(C.map f).sum=C.length*r
 |[],h=>sI
 |c::C,h=>by
  have:=DT f r C fun s q=>h s (ak _ q)
  have h1:=h c sI;simp[this,h1,Nat.succ_mul];omega
structure pV (pages:Nat) (e i:Nat) (c:Ca):Prop where
 inv:tq e c
 one: ∃x,c.L=[x]∧nI x.F=pages-(c.C.length:Int)
 tk:qZ c.C=i
section
variable {mn:Int} {O:List (List Int)} {pages e i:Nat} {c:Ca}
theorem pV.nd (h:pV pages e i c) {s:Sl} (hs:s∈c.C):s.nd=0:=by
 obtain⟨x,hx,_⟩:=h.one;have:=(h.inv.tk s hs).rng h.inv.zi;rw[hx] at this;simp at this;omega
theorem pV.none_ (h:pV pages e i c) (hb:mX 0 c.C c.C.length=none):i=c.C.length*jR e:=by
 rw[←h.tk];refine DT _ _ _ fun s hs=> ?_
 obtain⟨j,hj,hg⟩:=iG.1 hs;have h1:=xY hb j s hj (au.2 ⟨hj,hg⟩) (h.nd hs);have h2:jQ s≤s.T.length:=pJ _;rw[←h.inv.len s hs];omega
theorem pV.take (h:pV pages e i c) (hO:qY O 1) (hi:i<pages*jR e):
 (takeC mn O e c 0 true).2.1=0∧(takeC mn O e c 0 true).2.2.1=0∧pV pages e (i+1) (takeC mn O e c 0 true).1:=by
 have hI:=uT (mn:=mn) (O:=O) (v:=0) (u:=true) (by obtain⟨x,hx,_⟩:=h.one;rw[hx];exact hO) h.inv;obtain⟨x,hx,hs⟩:=h.one;have hv: ¬((0:Int)<0∨(c.L.length:Int)≤0):=by rw[hx];simp
 revert hI;unfold takeC;rw[if_neg hv];cases hb:mX 0 c.C c.C.length with
 |some k=>
  obtain⟨_,s,hk,hn,hm⟩:=lQ hb;simp only[hk];intro hI;refine⟨trivial,by rw[u7];exact hn,hI,⟨x,hx,by simpa using hs⟩,?_⟩;obtain⟨f1,f2,_⟩:=lV hm;have h1:=wZ f2 true;have h2:=U9 jQ c.C k s (nD s (kJ s.T) true) hk;have h3:=h.tk;have h4:jQ (nD s (kJ s.T) true)=nN (s.T.set (kJ s.T) true):=rfl;have h5:jQ s=nN s.T:=rfl;show((c.C.set k (nD s (kJ s.T) true)).map jQ).sum=i+1;have h6:(c.C.map jQ).sum=i:=h3;simp only[if_true,fE,if_false] at h1;omega
 |none=>
  have hfull:=h.none_ hb;have hlt:c.C.length<pages:=by
   rcases dV c.C.length pages with q|q
   ·exact q
   ·have:=iH (jR e) q
    omega
  obtain⟨b,hbb,hf,et⟩:=(take_one (mn:=mn) hO (h.inv.zi x (by rw[hx];simp))).2 om;simp only[hx,et,if_true];intro hI;refine⟨trivial,trivial,hI,⟨wE 0 b x,rfl,?_⟩,?_⟩
  ·rw[I4]
   show nI (sJ 0 b x.F)=_;rw[(h.inv.zi x (by rw[hx];simp)).Dv om hbb,hs];have:sz 0=1:=rfl;push_cast;omega
  ·have h1:=sum_ins jQ c.C (nD ⟨0,b.1,jU e⟩ 0 true)
   have h3:(c.C.map jQ).sum=i:=h.tk;have h4:=qF h.inv.e1 h.inv.e2;have h5:=wZ (T:=jU e) (k:=0) (b:=false) (by unfold jU;simp[fq];omega) true;have h6:=vO e;have h7:jQ (nD ⟨0,b.1,jU e⟩ 0 true)=nN ((jU e).set 0 true):=rfl;show((uJ c.C (nD ⟨0,b.1,jU e⟩ 0 true)).map jQ).sum=i+1;simp only[if_true,fE,if_false] at h5;omega
end
theorem eqO (a k b m:Int) (w:World):(binOp .eql 40 (.agg #[.int .i64 a,.int .i64 k]) (.agg #[.int .i64 b,.int .i64 m])).run Tryz.prog w= .ok (.bool (a==b&&k==m)) w:=by
 have u3:=bE;have a3:=iw;have z3:=gL;have hS:Tryz.prog.underlying 40=some (.struct (Tryz.prog.fieldsOf 40)):=kR;have hp:Tryz.prog.stoodInHeld 40=false:=kR;rw[run_eql_struct,show(10000:Nat)=9999+1 from rfl,run_equalIn_agg w 9999 40 _ _ hS hp];simp only[Program.fieldsOf,iB];go_simp
 by_cases h1:a=b<;>by_cases h2:k=m<;>simp[h1,h2]
theorem uX:Tryz.prog.eqGuardType Tryz.prog.depth 40=false:=kR
theorem cov_sum {n:Int} (n0:0≤n):nI (uH 0 n)=n:=by
 have:=ET (tF n.toNat 0 n (aH _) n0);omega
theorem pV.start {pages e:Nat} {x:Nd} (hI:Inv x.n x.F x.T) (e1:1≤e) (e2:e≤64) (hF:x.F=uH 0 pages):pV pages e 0 ⟨[x],[]⟩:=
 ⟨⟨e1,e2,fun y hy=>by simp at hy;subst hy;exact hI,sI,List.Pairwise.nil,fun s hs=>(by cases hs),fun s hs=>(by cases hs)⟩,⟨x,rfl,by rw[hF,cov_sum om];simp⟩,rfl⟩
theorem DU: ∀{C:List Sl},(∀s∈C,s.T.length≤64)→qZ C≤xk C∧xk C≤64*C.length
 |[],_=>⟨aH _,aH _⟩
 |s::C,h=>by
  obtain⟨h1,h2⟩:=DU (C:=C) fun x hx=>h x (ak _ hx)
  have h3:=h s sI;have h4:jQ s≤s.T.length:=pJ _;unfold qZ xk at*
  simp only[bP,List.sum_cons,dF];omega
section
variable {B:Nat} {ev:Nat→Addr} {pc pz e:Nat} {mn lw hi:Int} {O:List (List Int)} {X:List Nat} {vs:Value} {A:SA} {c:Ca} {w:World}
theorem Ua (v:Int) (u:Bool) (hE:yL B ev w) (h:CS B w pc pz mn lw hi O e X vs A c) (hI:tq e c):
 Calls Tryz.prog 75 #[.pointer (some ⟨pc,0,none⟩),.int .i64 v,.bool u] w (wL B ev pc pz mn lw hi O e X vs A c w (takeC mn O e c v u)):=by
 by_cases hv:v<0∨(c.L.length:Int)≤v
 ·exact U2 v u hE h hv
 ·obtain⟨n,rfl⟩: ∃n:Nat,v=n:=⟨v.toNat,om⟩
  exact QJ n u hE h hI hE.size om
theorem CS.new {L:List Nd} (h:oz B w pz mn lw hi O L) (hL:0<L.length) (hB:B≤w.heap.size) (e:Nat):
 CS B (w.alloc (.cells #[.pointer (some ⟨pz,0,none⟩),.int .i64 e,.slice none 0 0] 186)) w.heap.size pz mn lw hi O e (w.heap.size::ys L) (.slice none 0 0) [] ⟨L,[]⟩:=by
 have b:Below w.heap.size w (w.alloc (.cells #[.pointer (some ⟨pz,0,none⟩),.int .i64 e,.slice none 0 0] 186)):=jK;have hc:cay w.heap.size (.slice none 0 0) []=[w.heap.size]:=rfl;refine⟨(h.toX.more (fun x hx=>ak _ hx) (fun y hy=> ?_)).below b,⟨jD.mk_ w [.pointer (some ⟨pz,0,none⟩),.int .i64 e,.slice none 0 0] 186 rfl,⟨rfl,.inl ⟨rfl,rfl⟩⟩,rfl,fun i p s hp=>by simp at hp,fun y hy=> ?_,?_,fun y hy=> ?_⟩,fun y hy q=> ?_,hL⟩
 ·rcases aB.1 hy with rfl|q
  ·exact .inr (aH _)
  ·exact .inl q
 ·rw[hc] at hy;simp at hy;subst hy;exact aG ..
 ·rw[hc];simp
 ·rw[hc] at hy;simp at hy;subst hy;simp;exact hB
 ·rw[hc] at hy;simp at hy;subst hy
  have:=(h.b.lim _ q).2;omega
end
def behindO (e:Nat) (a b:Ob):Prop:=a.1<b.1∨a.1=b.1∧a.2+e≤b.2
theorem yZ {e:Nat} {s:Sl} {o:Ob}:o∈obsS e s↔∃k,s.T[k]?=some true∧o=u7 e s k:=by
 unfold obsS;rw[List.mem_filterMap];constructor
 ·rintro⟨k,_,h⟩
  split at h
  ·rename_i hk
   exact⟨k,hk,(aI h).symm⟩
  ·cases h
 ·rintro⟨k,hk,rfl⟩
  exact⟨k,fF.2 (au.1 hk).1,by rw[if_pos hk]⟩
theorem rE {e:Nat} {C:List Sl} {o:Ob}:o∈oM e C↔∃s∈C,∃k,s.T[k]?=some true∧o=u7 e s k:=by
 unfold oM;simp only[dY,yZ]
theorem Uc {e:Nat} (e1:1≤e) {s:Sl} (hl:s.T.length=jR e) {k:Nat} (hk:s.T[k]?=some true):s.pg*64≤(u7 e s k).2∧(u7 e s k).2+e≤s.pg*64+64∧(u7 e s k).1=s.nd:=by
 have hlt:=(au.1 hk).1;rw[hl] at hlt;have h1:(k+1)*e≤64:=bW (iH e (show k+1≤jR e by omega)) (Nat.div_mul_le_self 64 e);have h2:((k:Int)+1)*e≤64:=by exact_mod_cast h1
 have h3:0≤(k:Int)*e:=fG om om;rw[Int.add_mul,Int.one_mul] at h2;refine⟨?_,?_,rfl⟩
 ·show s.pg*64≤s.pg*64+(k:Int)*e
  omega
 ·show s.pg*64+(k:Int)*e+e≤_
  omega
theorem ob_one {e:Nat} {c:Ca} (h:tq e c) {o:Ob} (ho:o∈oM e c.C):0≤o.2∧o.2<16384∧o.2 / 64=(o.2+e-1) / 64:=by
 obtain⟨s,hs,k,hk,rfl⟩:=rE.1 ho;have h1:=Uc h.e1 (h.len s hs) hk;have h2:=h.rng hs;have h3:=h.e1;omega
def OnlyP (c:Ca):Prop:=∀(i:Nat) (x:Nd),c.L[i]?=some x→∀p∈x.T,∃s∈c.C,s.nd=i∧s.pg=p.1
def cntN (v:Int) (C:List Sl):Nat:=C.countP fun s=>decide (s.nd=v)
section
variable {e:Nat} {c:Ca}
theorem wM {C:List Sl} {x:Ob}:x∈oM e C↔∃(i:Nat) (s:Sl) (k:Nat),C[i]?=some s∧s.T[k]?=some true∧x=u7 e s k:=by
 rw[rE];constructor
 ·rintro⟨s,hs,k,hk,rfl⟩
  obtain⟨i,hi,rfl⟩:=iG.1 hs;exact⟨i,_,k,aA hi,hk,rfl⟩
 ·rintro⟨i,s,k,hs,hk,rfl⟩
  exact⟨s,aF hs,k,hk,rfl⟩
theorem ob_pg (e1:1≤e) {s:Sl} (hl:s.T.length=jR e) {k:Nat} (hk:k<s.T.length):0≤(k:Int)*e∧(k:Int)*e+e≤64:=by
 rw[hl] at hk;have h1:(k+1)*e≤64:=bW (iH e (show k+1≤jR e by omega)) (Nat.div_mul_le_self 64 e);have h2:((k:Int)+1)*e≤64:=by exact_mod_cast h1
 rw[Int.add_mul,Int.one_mul] at h2;exact⟨fG om om,h2⟩
theorem mul_inj {e k k':Nat} (e1:1≤e) (h:(k:Int)*e=(k':Int)*e):k=k':=by
 have h2:k*e=k'*e:=by exact_mod_cast h
 exact Nat.eq_of_mul_eq_mul_right om h2
theorem ob_at (h:tq e c) {i j:Nat} {s t:Sl} {k k':Nat} (hs:c.C[i]?=some s) (ht:c.C[j]?=some t) (hk:k<s.T.length) (hk':k'<t.T.length) (heq:u7 e s k=u7 e t k'):i=j∧k=k':=by
 have e1:=h.e1;have a:=ob_pg e1 (h.len s (aF hs)) hk;have b:=ob_pg e1 (h.len t (aF ht)) hk';unfold u7 at heq;injection heq with q1 q2;have hi:=(au.1 hs);have hj:=(au.1 ht);obtain⟨li,ei⟩:=hi;obtain⟨lj,ej⟩:=hj;have hp:s.pg=t.pg:=om;have hij:i=j:=by
  rcases gH i j with q|q|q
  ·have:=dG.1 h.srt i j li lj q
   rw[ei,ej] at this;unfold ltS ltP at this;omega
  ·exact q
  ·have:=dG.1 h.srt j i lj li q
   rw[ei,ej] at this;unfold ltS ltP at this;omega
 refine⟨hij,mul_inj e1 ?_⟩;omega
theorem obs_set (h:tq e c) {i:Nat} {s:Sl} (hs:c.C[i]?=some s) {k:Nat} (hk:k<s.T.length) (b:Bool) (x:Ob):
 x∈oM e (c.C.set i (nD s k b))↔(x=u7 e s k∧b=true)∨(x∈oM e c.C∧x≠u7 e s k):=by
 have hil:=(au.1 hs).1;rw[wM];constructor
 ·rintro⟨j,z,m,hz,hm,rfl⟩
  by_cases hij:i=j
  ·subst hij
   rw[aY hil] at hz;obtain rfl:=aI hz;simp only[nD] at hm;by_cases hmk:k=m
   ·subst hmk
    rw[aY hk] at hm;exact .inl ⟨rfl,aI hm⟩
   ·rw[bL hmk] at hm
    refine .inr ⟨wM.2 ⟨i,s,m,hs,hm,rfl⟩,fun q=>hmk ?_⟩;exact(ob_at h hs hs hk (au.1 hm).1 (show u7 e s k=u7 e s m from q.symm)).2
  ·rw[bL hij] at hz
   refine .inr ⟨wM.2 ⟨j,z,m,hz,hm,rfl⟩,fun q=>hij ?_⟩;exact(ob_at h hs hz hk (au.1 hm).1 q.symm).1
 ·rintro(⟨rfl,rfl⟩|⟨hx,hne⟩)
  ·exact⟨i,nD s k true,k,aY hil,by simp only[nD];exact aY hk,rfl⟩
  ·obtain⟨j,z,m,hz,hm,rfl⟩:=wM.1 hx
   by_cases hij:i=j
   ·subst hij
    rw[hs] at hz;obtain rfl:=aI hz;have hmk:k≠m:=fun q=>hne (by rw[q])
    exact⟨i,nD s k b,m,aY hil,by simp only[nD];rw[bL hmk];exact hm,rfl⟩
   ·exact⟨j,z,m,by rw[bL hij];exact hz,hm,rfl⟩
theorem DY {mn:Int} {O:List (List Int)} (hO:qY O c.L.length) (h:tq e c) (v:Int) (u:Bool):
 ((takeC mn O e c v u).2.1=0∧(takeC mn O e c v u).2.2∉oM e c.C∧∀x,x∈oM e (takeC mn O e c v u).1.C↔x=(takeC mn O e c v u).2.2∨x∈oM e c.C)∨
 ((takeC mn O e c v u).2.1≠0∧(takeC mn O e c v u).1.C=c.C):=by
 have hI':=uT (mn:=mn) (v:=v) (u:=u) hO h;revert hI';unfold takeC;by_cases hv:v<0∨(c.L.length:Int)≤v
 ·rw[if_pos hv];intro _;exact .inr ⟨sI,rfl⟩
 rw[if_neg hv];cases hb:mX v c.C c.C.length with
 |some i=>
  obtain⟨_,s,hs,_,hm⟩:=lQ hb;simp only[hs];intro _;obtain⟨f1,f2,_⟩:=lV (T:=s.T) hm;refine .inl ⟨trivial,fun hx=> ?_,fun x=> ?_⟩
  ·obtain⟨j,z,m,hz,hm',he⟩:=wM.1 hx
   obtain⟨q1,q2⟩:=ob_at h hs hz f1 (au.1 hm').1 he;subst q1 q2;rw[hs] at hz;obtain rfl:=aI hz;rw[f2] at hm';cases hm'
  ·rw[obs_set h hs f1]
   constructor
   ·rintro(⟨q,_⟩|⟨q,_⟩)
    ·exact .inl q
    ·exact .inr q
   ·rintro(q|q)
    ·exact .inl ⟨q,rfl⟩
    ·by_cases hq:x=u7 e s (kJ s.T)
     ·exact .inl ⟨hq,rfl⟩
     ·exact .inr ⟨q,hq⟩
 |none=>
  simp only;by_cases hz:(kU mn O c.L v 0 u).2.1=0
  ·rw[if_pos hz]
   intro hI';generalize hnd:(kU mn O c.L v 0 u).2.2.1=nd at*
   generalize hpg:(kU mn O c.L v 0 u).2.2.2.1=pg at*
   generalize(kU mn O c.L v 0 u).1=L' at*
   have e1:=h.e1;have hr:=qF h.e1 h.e2;have hnl:(jU e).length=jR e:=by unfold jU;simp
   have hob: ∀x,x∈obsS e (nD ⟨nd,pg,jU e⟩ 0 true)↔x=(nd,pg*64):=fun x=>by
    rw[yZ];constructor
    ·rintro⟨k,hk,rfl⟩
     simp only[nD] at hk;by_cases hk0:k=0
     ·subst hk0;simp[u7,nD]
     ·rw[bL (Ne.symm hk0)] at hk
      unfold jU at hk;rw[fq] at hk;split at hk<;>simp at hk
    ·rintro rfl
     exact⟨0,by simp only[nD];exact aY (by rw[hnl];exact hr),by simp[u7,nD]⟩
   refine .inl ⟨rfl,fun hx=> ?_,fun x=> ?_⟩
   ·obtain⟨z,hzm,m,hm,he⟩:=rE.1 hx
    have hs:=hI'.srt;have hz':=(ug (C:=c.C) (s:=nD ⟨nd,pg,jU e⟩ 0 true)).2 (.inr hzm);have hp:=Uc e1 (h.len z hzm) hm;rw[←he] at hp;simp only at hp;have hpg2:z.pg=pg:=om;have hnd2:z.nd=nd:=om;unfold uJ at hs;obtain⟨s1,s2,s3⟩:=dM.1 hs;rw[←bX (uF (nD ⟨nd,pg,jU e⟩ 0 true).nd (nD ⟨nd,pg,jU e⟩ 0 true).pg c.C) c.C] at hzm;rcases aD.1 hzm with q|q
    ·have:=s3 z q _ (aG ..)
     unfold ltS ltP at this;simp only[nD] at this;omega
    ·have:=(bM.1 s2).1 z q
     unfold ltS ltP at this;simp only[nD] at this;omega
   ·constructor
    ·intro hx
     obtain⟨z,hzm,m,hm,he⟩:=rE.1 hx;rcases ug.1 hzm with q|q
     ·exact .inl ((hob x).1 (yZ.2 ⟨m,by rw[←q];exact hm,by rw[←q];exact he⟩))
     ·exact .inr (rE.2 ⟨z,q,m,hm,he⟩)
    ·rintro(q|q)
     ·obtain⟨m,hm,he⟩:=yZ.1 ((hob x).2 q)
      exact rE.2 ⟨_,ug.2 (.inl rfl),m,hm,he⟩
     ·obtain⟨z,hzm,m,hm,he⟩:=rE.1 q
      exact rE.2 ⟨z,ug.2 (.inr hzm),m,hm,he⟩
  ·rw[if_neg hz]
   intro _;exact .inr ⟨hz,rfl⟩
def backC (e:Nat) (c:Ca) (l:List Ob):Ca:=l.foldl (fun c o=>(giveC e c o).1) c
end
abbrev Hd:=List Ob×List Ob
structure De where
 c:Ca
 H:List Hd
 P:List (List Ob)
def lZ (h:Hd) (P:List (List Ob)):Hd×List (List Ob):=
 if h.1=[] then(if h.2=[] then(match P.getLast? with|some m=>((m,[]),P.dropLast)|none=>(h,P)) else((h.2,[]),P)) else(h,P)
def oV (h:Hd) (P:List (List Ob)):Hd×List (List Ob):=
 if h.1.length=4 then(if h.2=[] then(([],h.1),P) else(([],h.2),P++[h.1])) else(h,P)
def nY (d:De) (k:Int):Option Hd:=if k<0 then none else d.H[k.toNat]?
def lN (H:List Hd):List Ob:=H.flatMap fun h=>h.1++h.2
def held (d:De):List Ob:=lN d.H++d.P.flatten
def za (e:Nat) (d:De) (o:Ob):Bool:=decide (o∈oM e d.c.C)&& !decide (o∈held d)
def takeD (mn:Int) (O:List (List Int)) (e:Nat) (d:De) (k v:Int) (u:Bool):De×Nat×Ob:=match nY d k with
 |none=>(d,2,(0,0))
 |some h=>match (lZ h d.P).1.1.getLast? with
  |some o=>(⟨d.c,d.H.set k.toNat ((lZ h d.P).1.1.dropLast,(lZ h d.P).1.2),(lZ h d.P).2⟩,0,o)
  |none=>(⟨(takeC mn O e d.c v u).1,d.H,d.P⟩,(takeC mn O e d.c v u).2.1,(takeC mn O e d.c v u).2.2)
def kK (e:Nat) (d:De) (k:Int) (o:Ob):De×Nat:=match nY d k with
 |none=>(d,2)
 |some h=>if za e d o=true then(⟨d.c,d.H.set k.toNat ((oV h d.P).1.1++[o],(oV h d.P).1.2),(oV h d.P).2⟩,0) else(d,9)
def drainD (e:Nat) (d:De) (k:Int):De×Nat×Nat:=match nY d k with
 |none=>(d,2,0)
 |some h=>(⟨backC e d.c (h.1++h.2),d.H.set k.toNat ([],[]),d.P⟩,0,(h.1++h.2).length)
def emptyD (e:Nat) (d:De):De×Nat:=(⟨backC e d.c d.P.flatten,d.H,[]⟩,d.P.flatten.length)
structure oH (e:Nat) (d:De):Prop where
 c:tq e d.c
 hl:1≤d.H.length∧d.H.length≤4
 sub: ∀o∈held d,o∈oM e d.c.C
 nd:(held d).Nodup
 h4: ∀h∈d.H,h.1.length≤4∧h.2.length≤4
 p4: ∀m∈d.P,m.length=4
theorem p8 {d:De} {k:Int} {h:Hd} (q:nY d k=some h):0≤k∧d.H[k.toNat]?=some h∧k.toNat<d.H.length∧(k.toNat:Int)=k:=by
 unfold nY at q;split at q
 ·cases q
 ·exact⟨om,q,(au.1 q).1,om⟩
theorem vQ {d:De} {k:Int} (q:nY d k=none):k<0∨(d.H.length:Int)≤k:=by
 unfold nY at q;split at q
 ·exact .inl ‹_›
 ·have:=List.getElem?_eq_none_iff.1 q
  exact .inr om
theorem Aj (a:Ob): ∀{H:List Hd} {k:Nat} {h:Hd} (g:Hd),H[k]?=some h→(lN (H.set k g)).count a+h.1.count a+h.2.count a=(lN H).count a+g.1.count a+g.2.count a
 |[],k,h,g,q=>by simp at q
 |b::H,0,h,g,q=>by
  simp at q;subst q;show((g.1++g.2)++lN H).count a+_+_=((b.1++b.2)++lN H).count a+_+_;simp only[fK];omega
 |b::H,k+1,h,g,q=>by
  have ih:=Aj a (H:=H) (k:=k) g (by simpa using q);show((b.1++b.2)++lN (H.set k g)).count a+_+_=((b.1++b.2)++lN H).count a+_+_;simp only[fK] at ih ⊢;omega
theorem Ud (a:Ob) (h:Hd) (P:List (List Ob)):(lZ h P).1.1.count a+(lZ h P).1.2.count a+(lZ h P).2.flatten.count a=h.1.count a+h.2.count a+P.flatten.count a:=by
 unfold lZ;split
 ·rename_i q1
  split
  ·rename_i q2
   split
   ·rename_i m q3
    obtain⟨ys,rfl⟩:=gI.1 q3;simp[q1,q2,fK];omega
   ·rfl
  ·simp[q1]
 ·rfl
theorem Ue (a:Ob) (h:Hd) (P:List (List Ob)):(oV h P).1.1.count a+(oV h P).1.2.count a+(oV h P).2.flatten.count a=h.1.count a+h.2.count a+P.flatten.count a:=by
 unfold oV;split
 ·split
  ·rename_i q2
   simp[q2]
  ·simp[fK];omega
 ·rfl
theorem Uf {h:Hd} {P:List (List Ob)} (h1:h.1.length≤4∧h.2.length≤4) (hp: ∀m∈P,m.length=4):((lZ h P).1.1.length≤4∧(lZ h P).1.2.length≤4)∧∀m∈(lZ h P).2,m.length=4:=by
 unfold lZ;split
 ·split
  ·split
   ·rename_i m q3
    have:=hp m (List.mem_of_getLast? q3);exact⟨⟨by simp;omega,sI⟩,fun x hx=>hp x (List.dropLast_subset _ hx)⟩
   ·exact⟨h1,hp⟩
  ·exact⟨⟨h1.2,sI⟩,hp⟩
 ·exact⟨h1,hp⟩
theorem Ug {h:Hd} {P:List (List Ob)} (h1:h.1.length≤4∧h.2.length≤4) (hp: ∀m∈P,m.length=4):((oV h P).1.1.length≤3∧(oV h P).1.2.length≤4)∧∀m∈(oV h P).2,m.length=4:=by
 unfold oV;split
 ·rename_i q
  split
  ·exact⟨⟨sI,by simp[q]⟩,hp⟩
  ·refine⟨⟨sI,h1.2⟩,fun x hx=> ?_⟩
   rcases aD.1 hx with r|r
   ·exact hp x r
   ·simp at r;subst r;exact q
 ·exact⟨⟨by show h.1.length≤3;omega,h1.2⟩,hp⟩
theorem oH.of {e:Nat} {d:De} (c:tq e d.c) (hl:1≤d.H.length∧d.H.length≤4) (hs: ∀a,(held d).count a≤1∧((held d).count a=1→a∈oM e d.c.C)) (h4: ∀h∈d.H,h.1.length≤4∧h.2.length≤4) (p4: ∀m∈d.P,m.length=4):oH e d:=
 ⟨c,hl,fun o ho=>(hs o).2 (by have:=(hs o).1;have:=dO.2 ho;omega),List.nodup_iff_count.2 fun a=>(hs a).1,h4,p4⟩
theorem oH.cnt {e:Nat} {d:De} (h:oH e d) (a:Ob):(held d).count a≤1∧(0<(held d).count a→a∈oM e d.c.C):=⟨List.nodup_iff_count.1 h.nd a,fun q=>h.sub a (dO.1 q)⟩
theorem ze (d:De) (a:Ob):(held d).count a=(lN d.H).count a+d.P.flatten.count a:=by unfold held;rw[fK]
section
variable {mn:Int} {O:List (List Int)} {e:Nat} {d:De} {k v:Int} {u:Bool} {o:Ob} {h:Hd}
theorem mD (hh:nY d k=some h) (hl:(lZ h d.P).1.1.getLast?=some o):takeD mn O e d k v u=(⟨d.c,d.H.set k.toNat ((lZ h d.P).1.1.dropLast,(lZ h d.P).1.2),(lZ h d.P).2⟩,0,o):=by
 unfold takeD;rw[hh];simp only[hl]
theorem mV (hh:nY d k=some h) (hl:(lZ h d.P).1.1.getLast?=none):takeD mn O e d k v u=(⟨(takeC mn O e d.c v u).1,d.H,d.P⟩,(takeC mn O e d.c v u).2.1,(takeC mn O e d.c v u).2.2):=by
 unfold takeD;rw[hh];simp only[hl]
theorem tN (hh:nY d k=none):takeD mn O e d k v u=(d,2,(0,0)):=by unfold takeD;rw[hh]
theorem Uh (hh:nY d k=some h) (hl:(lZ h d.P).1.1.getLast?=some o) (a:Ob):(held (takeD mn O e d k v u).1).count a+(if o=a then 1 else 0)=(held d).count a:=by
 rw[mD hh hl,ze,ze];obtain⟨_,h1,_⟩:=p8 hh;have c1:=Aj a ((lZ h d.P).1.1.dropLast,(lZ h d.P).1.2) h1;have c2:=Ud a h d.P;obtain⟨ys,hy⟩:=gI.1 hl;simp only[hy,List.dropLast_concat,fK,List.count_singleton,beq_iff_eq] at c1 c2 ⊢;by_cases q:o=a
 ·simp only[q,if_true] at c2 ⊢;omega
 ·simp only[q,if_false] at c2 ⊢;omega
theorem qI (hO:qY O d.c.L.length) (hI:oH e d):oH e (takeD mn O e d k v u).1:=by
 cases hh:nY d k with
 |none=>rw[tN hh];exact hI
 |some h=>
  cases hl:(lZ h d.P).1.1.getLast? with
  |some o=>
   have hc:=Uh (mn:=mn) (O:=O) (e:=e) (v:=v) (u:=u) hh hl;obtain⟨k0,h1,h2,_⟩:=p8 hh;have hm:=Uf (hI.h4 h (aF h1)) hI.p4;rw[mD hh hl] at hc ⊢;refine oH.of hI.c (by simpa using hI.hl) (fun a=> ?_) (fun g hg=> ?_) hm.2
   ·obtain⟨a1,a2⟩:=hI.cnt a
    have:=hc a;exact⟨om,fun q=>a2 om⟩
   ·rcases dw hg with q|q
    ·exact hI.h4 g q
    ·subst q
     exact⟨by simp;omega,hm.1.2⟩
  |none=>
   rw[mV hh hl];refine oH.of (uT hO hI.c) hI.hl (fun a=> ?_) hI.h4 hI.p4;obtain⟨a1,a2⟩:=hI.cnt a;refine⟨a1,fun q=> ?_⟩;have:=a2 (by show 0<(held d).count a;exact(by have:(held d).count a=1:=q;omega));rcases DY (mn:=mn) (O:=O) hO hI.c v u with⟨_,_,t⟩|⟨_,t⟩
   ·exact(t a).2 (.inr this)
   ·show a∈oM e (takeC mn O e d.c v u).1.C
    rw[t];exact this
theorem Oe (hh:nY d k=some h) (ho:za e d o=true) (a:Ob):(held (kK e d k o).1).count a=(held d).count a+(if o=a then 1 else 0):=by
 unfold kK;rw[hh];simp only[ho,if_true];rw[ze,ze];obtain⟨_,h1,_⟩:=p8 hh;have c1:=Aj a ((oV h d.P).1.1++[o],(oV h d.P).1.2) h1;have c2:=Ue a h d.P;simp only[fK,List.count_singleton,beq_iff_eq] at c1 c2 ⊢;by_cases q:o=a
 ·simp only[q,if_true] at c1 c2 ⊢;omega
 ·simp only[q,if_false] at c1 c2 ⊢;omega
theorem Og:za e d o=true↔o∈oM e d.c.C∧o∉held d:=by unfold za;simp
theorem xw (hI:oH e d):oH e (kK e d k o).1:=by
 cases hh:nY d k with
 |none=>
  have:kK e d k o=(d,2):=by unfold kK;rw[hh]
  rw[this];exact hI
 |some h=>
  by_cases ho:za e d o=true
  ·have hc:=Oe hh ho
   obtain⟨q1,q2⟩:=Og.1 ho;obtain⟨k0,h1,h2,_⟩:=p8 hh;have hm:=Ug (hI.h4 h (aF h1)) hI.p4;have he:kK e d k o=(⟨d.c,d.H.set k.toNat ((oV h d.P).1.1++[o],(oV h d.P).1.2),(oV h d.P).2⟩,0):=by unfold kK;rw[hh];simp only[ho,if_true]
   rw[he] at hc ⊢;dsimp only at hc ⊢;refine oH.of hI.c (by simpa using hI.hl) (fun a=> ?_) (fun g hg=> ?_) hm.2
   ·obtain⟨a1,a2⟩:=hI.cnt a
    have:=hc a;by_cases q:o=a
    ·subst q
     have z:(held d).count o=0:=List.count_eq_zero.2 q2;simp only[if_true] at this;exact⟨om,fun _=>q1⟩
    ·simp only[q,if_false] at this
     exact⟨om,fun r=>a2 om⟩
   ·rcases dw hg with q|q
    ·exact hI.h4 g q
    ·subst q
     exact⟨by simp;omega,hm.1.2⟩
  ·have he:kK e d k o=(d,9):=by unfold kK;rw[hh];simp only[ho];rfl
   rw[he];exact hI
theorem xA: ∀{l r:List Ob},l.Nodup→(∀x∈l,x∈r)→l.length≤r.length
 |[],r,_,_=>bq _
 |a::l,r,h,hs=>by
  obtain⟨h1,h2⟩:=aS.1 h;have ha:=hs a sI;have:=xA (l:=l) (r:=r.erase a) h2 fun x hx=>(List.mem_erase_of_ne (fun q=>h1 (by rw[←q];exact hx))).2 (hs x (ak _ hx))
  rw[iX ha] at this;have:=List.length_pos_of_mem ha;simp only[dF];omega
theorem mW (hI:oH e d):4*d.P.length≤(oM e d.c.C).length∧(held d).length≤(oM e d.c.C).length:=by
 have h1:=xA hI.nd hI.sub;have h2: ∀{P:List (List Ob)},(∀m∈P,m.length=4)→P.flatten.length=4*P.length:=by
  intro P;induction P with
  |nil=>intro _;rfl
  |cons a P ih=>
   intro h;simp only[List.flatten_cons,aV,dF,ih fun m hm=>h m (ak _ hm),h a sI];omega
 have h3:(held d).length=(lN d.H).length+d.P.flatten.length:=by unfold held;simp
 rw[h2 hI.p4] at h3;omega
end
def lG (X:List Nat) (w:World) (v:Value) (l:List Ob):Prop:=
 ∃p cap,v= .slice p l.length cap∧l.length≤cap∧cap≤maxLen∧∀j a k,l[j]?=some (a,k)→∃g off,p=some ⟨g,off,none⟩∧g∉X∧g<w.heap.size∧w.cell? ⟨g,off+j*2,none⟩=some (.int .i64 a)∧w.cell? ⟨g,off+j*2+1,none⟩=some (.int .i64 k)
section
variable {X Y S:List Nat} {w w':World} {v:Value} {l:List Ob}
theorem lG.nil (X:List Nat) (w:World):lG X w (.slice none 0 0) []:=⟨none,0,rfl,aH _,bq _,fun j a k hj=>by simp at hj⟩
theorem lG.keep (h:lG X w v l) (k:Keep S w w') (hs: ∀s∈S,s∈X∨w.heap.size≤s):lG X w' v l:=by
 obtain⟨p,cap,h1,h2,h3,h4⟩:=h;refine⟨p,cap,h1,h2,h3,fun j a b hj=> ?_⟩;obtain⟨g,off,e1,e2,e3,e4,e5⟩:=h4 j a b hj;have hn:g∉S:=fun q=>by
  rcases hs g q with r|r
  ·exact e2 r
  ·omega
 exact⟨g,off,e1,e2,aC e3 k.size,(k.cell e3 hn).trans e4,(k.cell e3 hn).trans e5⟩
theorem lG.below (h:lG X w v l) (k:Below w.heap.size w w'):lG X w' v l:=h.keep (Keep.of (S:=[]) k) (fun _ q=>by cases q)
theorem lG.more (h:lG X w v l) (hY: ∀y∈Y,y∈X∨w.heap.size≤y):lG Y w v l:=by
 obtain⟨p,cap,h1,h2,h3,h4⟩:=h;refine⟨p,cap,h1,h2,h3,fun j a b hj=> ?_⟩;obtain⟨g,off,e1,e2,e3,e4,e5⟩:=h4 j a b hj;exact⟨g,off,e1,fun q=>by
  rcases hY g q with r|r
  ·exact e2 r
  ·omega,e3,e4,e5⟩
theorem lG.cut (h:lG X w v l) (n:Nat) (hn:n≤l.length): ∃p cap,v= .slice p l.length cap∧lG X w (.slice p n cap) (l.take n):=by
 obtain⟨p,cap,h1,h2,h3,h4⟩:=h;have e:(l.take n).length=n:=by rw[bC];omega
 refine⟨p,cap,h1,p,cap,by rw[e],om,h3,fun j a b hj=> ?_⟩;rw[eO] at hj;split at hj
 ·exact h4 j a b hj
 ·cases hj
theorem lG.isSlice (h:lG X w v l): ∃p cap,v= .slice p l.length cap∧l.length≤cap∧cap≤maxLen:=by
 obtain⟨p,cap,h1,h2,h3,_⟩:=h;exact⟨p,cap,h1,h2,h3⟩
theorem lG.at {p:Option Addr} {n cap:Nat} (h:lG X w (.slice p n cap) l) {j:Nat} {o:Ob} (hj:l[j]?=some o): ∃g off,p=some ⟨g,off,none⟩∧g∉X∧g<w.heap.size∧w.cell? ⟨g,off+j*2,none⟩=some (.int .i64 o.1)∧w.cell? ⟨g,off+j*2+1,none⟩=some (.int .i64 o.2):=by
 obtain⟨p',cap',h1,h2,h3,h4⟩:=h;injection h1 with h1 _ _;subst h1;exact h4 j o.1 o.2 hj
theorem pO {base:Nat} (h:w.ownsRow base 40 2 v l.length (kG l)) (hX: ∀g,v.ownBlock=some g→g∉X):lG X w v l:=by
 have ho:=h;obtain⟨_,h2⟩:=h;rcases h2 with⟨rfl,h3⟩|⟨g,cap,cur,rfl,hg,hh,hcap,hmax,_⟩
 ·have:l=[]:=by
   cases l with
   |nil=>rfl
   |cons b r=>simp at h3
  subst this;exact lG.nil X w
 ·refine⟨some ⟨g,0,none⟩,cap,rfl,hcap,hmax,fun j a k hj=>⟨g,0,rfl,hX g rfl,(ho.lt g rfl).2,?_⟩⟩
  have hlt:j<l.length:=(au.1 hj).1;obtain⟨e1,e2⟩:=u6 l j a k hj;rw[bH,ho.cellAt (j*2) om,ho.cellAt (j*2+1) om];exact⟨e1,e2⟩
end
abbrev HV:=List (Value×Value)
def l6 (V:HV):List Value:=V.flatMap fun p=>[p.1,p.2]
theorem o7: ∀{V:HV} {j:Nat} {p:Value×Value},V[j]?=some p→(l6 V)[j*2]?=some p.1∧(l6 V)[j*2+1]?=some p.2
 |[],j,p,h=>by simp at h
 |a::V,0,p,h=>by simp at h;subst h;simp[l6]
 |a::V,j+1,p,h=>by
  have ih:=o7 (V:=V) (j:=j) (p:=p) (by simpa using h);have e:l6 (a::V)=a.1::a.2::l6 V:=by simp[l6]
  rw[e,show(j+1)*2=j*2+1+1 from om];simpa using ih
theorem kP (V:HV):(l6 V).length=V.length*2:=by
 induction V with
 |nil=>rfl
 |cons a V ih=>simp[l6] at ih ⊢;omega
theorem xB: ∀{V:HV} {j:Nat} (p:Value×Value),j<V.length→l6 (V.set j p)=((l6 V).set (j*2) p.1).set (j*2+1) p.2
 |[],j,p,h=>by simp at h
 |a::V,0,p,h=>by simp[l6]
 |a::V,j+1,p,h=>by
  have ih:=xB (V:=V) (j:=j) p (by simpa using h);have e: ∀U:HV,l6 (a::U)=a.1::a.2::l6 U:=fun U=>by simp[l6]
  rw[iW,e,e,show(j+1)*2=j*2+1+1 from om,ih];simp
theorem Ui:El 127 38 (.slice none 0 0) 24:=⟨Tryz.underlying127,kR,rfl,om⟩
def day (pd gh:Nat) (vp:Value):List Nat:=pd::gh::jF vp
def xd (pc:Nat) (v:Value) (A:SA) (L:List Nd) (pd gh:Nat) (vp:Value):List Nat:=day pd gh vp++(cay pc v A++ys L)
structure DepB (X:List Nat) (B:Nat) (w:World) (pd pc gh:Nat) (V:HV) (vp:Value) (U:List Value) (H:List Hd) (P:List (List Ob)):Prop where
 d:jD w pd [.pointer (some ⟨pc,0,none⟩),.slice (some ⟨gh,0,none⟩) H.length H.length,vp]
 hs:jD w gh (l6 V)
 hl:V.length=H.length
 ho: ∀(i:Nat) (p:Value×Value) (h:Hd),V[i]?=some p→H[i]?=some h→lG X w p.1 h.1∧lG X w p.2 h.2
 row:w.ownsRow B 38 1 vp P.length U
 ul:U.length=P.length
 po: ∀(i:Nat) (u:Value) (m:List Ob),U[i]?=some u→P[i]?=some m→lG X w u m
 mem: ∀y∈day pd gh vp,y∈X
 nd:(day pd gh vp).Nodup
 lim: ∀y∈day pd gh vp,B≤y∧y<w.heap.size
structure CD (B:Nat) (w:World) (X:List Nat) (pd pc pz gh:Nat) (mn lw hi:Int) (O:List (List Int)) (e:Nat) (v:Value) (A:SA) (V:HV) (vp:Value) (U:List Value) (d:De):Prop where
 x: ∀y∈xd pc v A d.c.L pd gh vp,y∈X
 lim: ∀y∈X,B≤y∧y<w.heap.size
 cs:CS B w pc pz mn lw hi O e X v A d.c
 de:DepB X B w pd pc gh V vp U d.H d.P
 ne: ∀y∈day pd gh vp,y∉cay pc v A∧y∉ys d.c.L
def CDx (B:Nat) (w:World) (X F:List Nat) (pd pc pz gh:Nat) (mn lw hi:Int) (O:List (List Int)) (e:Nat) (d:De):Prop:=∃v A V vp U,CD B w X pd pc pz gh mn lw hi O e v A V vp U d∧∀f∈F,f∈X∧f∉xd pc v A d.c.L pd gh vp
section
variable {X Y S F:List Nat} {B:Nat} {w w':World} {pd pc pz gh e:Nat} {mn lw hi:Int} {O:List (List Int)} {v v' vp vp':Value} {A A':SA} {V V':HV} {U U':List Value} {d d':De} {H:List Hd} {P:List (List Ob)} {c c':Ca}
theorem CS.sub (h:CS B w pc pz mn lw hi O e X v A c) (hY: ∀y∈Y,y∈X) (h1: ∀y∈cay pc v A,y∈Y) (h2: ∀y∈ys c.L,y∈Y):CS B w pc pz mn lw hi O e Y v A c:=by
 obtain⟨qn,kn,qo,ko,z1,z2,z3⟩:=h.z.z;exact⟨⟨⟨qn,kn,qo,ko,z1,z2.sub hY,z3.sub hY⟩,h.z.b,h2,fun q=>h.z.out (hY _ q),fun x hx q=>h.z.outb x hx (hY _ q),h.z.ord,h.z.m0⟩,⟨h.ch.c,h.ch.row,h.ch.len,h.ch.sl,h1,h.ch.nd,h.ch.lim⟩,h.ne,h.l0⟩
theorem DepB.keep (h:DepB X B w pd pc gh V vp U H P) (k:Keep S w w') (hs: ∀s∈S,s∉day pd gh vp∧(s∈X∨w.heap.size≤s)):DepB X B w' pd pc gh V vp U H P:=
 ⟨h.d.keep k fun q=>(hs _ q).1 (aG ..),h.hs.keep k fun q=>(hs _ q).1 (ak _ (aG ..)),h.hl,
  fun i p g hp hg=>⟨(h.ho i p g hp hg).1.keep k fun s q=>(hs s q).2,(h.ho i p g hp hg).2.keep k fun s q=>(hs s q).2⟩,
  jE h.row k fun s q r=>(hs s q).1 (ak _ (ak _ r)),h.ul,fun i u m hu hm=>(h.po i u m hu hm).keep k fun s q=>(hs s q).2,h.mem,h.nd,
  fun y hy=>⟨(h.lim y hy).1,aC (h.lim y hy).2 k.size⟩⟩
theorem DepB.more (h:DepB X B w pd pc gh V vp U H P) (hY: ∀y∈Y,y∈X∨w.heap.size≤y) (hm: ∀y∈day pd gh vp,y∈Y):DepB Y B w pd pc gh V vp U H P:=
 ⟨h.d,h.hs,h.hl,fun i p g hp hg=>⟨(h.ho i p g hp hg).1.more hY,(h.ho i p g hp hg).2.more hY⟩,h.row,h.ul,fun i u m hu hm'=>(h.po i u m hu hm').more hY,hm,h.nd,h.lim⟩
theorem CD.limK (h:CD B w X pd pc pz gh mn lw hi O e v A V vp U d) (k:Keep S w w'): ∀y∈X,B≤y∧y<w'.heap.size:=fun y hy=>⟨(h.lim y hy).1,aC (h.lim y hy).2 k.size⟩
theorem CD.below (h:CD B w X pd pc pz gh mn lw hi O e v A V vp U d) (k:Below w.heap.size w w'):CD B w' X pd pc pz gh mn lw hi O e v A V vp U d:=
 ⟨h.x,h.limK (Keep.of (S:=[]) k),h.cs.below k,h.de.keep (Keep.of (S:=[]) k) (fun _ q=>by cases q),h.ne⟩
def off (X F:List Nat):List Nat:=X.filter fun x=> !F.contains x
theorem jJ {s:Nat}:s∈off X F↔s∈X∧s∉F:=by unfold off;simp
theorem CD.offd (h:CD B w X pd pc pz gh mn lw hi O e v A V vp U d) (hF: ∀f∈F,f∈X∧f∉xd pc v A d.c.L pd gh vp) {s:Nat} (hs:s∈xd pc v A d.c.L pd gh vp):s∈off X F:=jJ.2 ⟨h.x s hs,fun q=>(hF s q).2 hs⟩
theorem CD.offy (h:CD B w X pd pc pz gh mn lw hi O e v A V vp U d) (hF: ∀f∈F,f∈X∧f∉xd pc v A d.c.L pd gh vp) {s:Nat} (hs:s∈day pd gh vp):s∈off X F:=h.offd hF (av _ hs)
theorem CDx.lim (h:CDx B w X F pd pc pz gh mn lw hi O e d): ∀x∈X,B≤x∧x<w.heap.size:=by
 obtain⟨v,A,V,vp,U,h,_⟩:=h;exact h.lim
theorem CDx.below (h:CDx B w X F pd pc pz gh mn lw hi O e d) (k:Below w.heap.size w w'):CDx B w' X F pd pc pz gh mn lw hi O e d:=by
 obtain⟨v,A,V,vp,U,h,hf⟩:=h;exact⟨v,A,V,vp,U,h.below k,hf⟩
theorem CD.other (h:CD B w X pd pc pz gh mn lw hi O e v A V vp U d) (k:Keep S w w') (hs: ∀s∈S,(s∈X∨w.heap.size≤s)∧s∉xd pc v A d.c.L pd gh vp):CD B w' X pd pc pz gh mn lw hi O e v A V vp U d:=by
 have f1: ∀s∈S,s∉day pd gh vp:=fun s q r=>(hs s q).2 (av _ r)
 have f2: ∀s∈S,s∉cay pc v A:=fun s q r=>(hs s q).2 (aj _ (av _ r))
 have f3: ∀s∈S,s∉ys d.c.L:=fun s q r=>(hs s q).2 (aj _ (aj _ r))
 exact⟨h.x,h.limK k,h.cs.keep k (fun s q=>⟨f2 s q,(hs s q).1.imp (fun r=>⟨r,f3 s q⟩) id⟩),h.de.keep k (fun s q=>⟨f1 s q,(hs s q).1⟩),h.ne⟩
theorem CD.cache (h:CD B w X pd pc pz gh mn lw hi O e v A V vp U d) (hc:CS B w' pc pz mn lw hi O e Y v' A' c') (k:Keep (cay pc v A++ys d.c.L) w w') (hY: ∀x∈X,x∈Y) (hY2: ∀x∈Y,x∈X∨w.heap.size≤x) (hv: ∀y∈cay pc v' A',y∈cay pc v A∨w.heap.size≤y) (hs:qE d.c.L c'.L):
 CD B w' (X++xd pc v' A' c'.L pd gh vp) pd pc pz gh mn lw hi O e v' A' V vp U ⟨c',d.H,d.P⟩∧(∀x∈X++xd pc v' A' c'.L pd gh vp,x∈X∨w.heap.size≤x):=by
 have ey:ys c'.L=ys d.c.L:=hs.ys;have hd: ∀y∈day pd gh vp,y∈X:=h.de.mem;have new: ∀x∈X++xd pc v' A' c'.L pd gh vp,x∈X∨w.heap.size≤x:=fun x hx=>by
  rcases aD.1 hx with q|q
  ·exact .inl q
  ·rcases aD.1 q with q|q
   ·exact .inl (hd x q)
   ·rcases aD.1 q with q|q
    ·rcases hv x q with r|r
     ·exact .inl (h.cs.ch.mem x r)
     ·exact .inr r
    ·rw[ey] at q
     exact .inl (h.cs.z.mem x q)
 have inY: ∀x∈X++xd pc v' A' c'.L pd gh vp,x∈Y:=fun x hx=>by
  rcases aD.1 hx with q|q
  ·exact hY x q
  ·rcases aD.1 q with q|q
   ·exact hY x (hd x q)
   ·rcases aD.1 q with q|q
    ·exact hc.ch.mem x q
    ·exact hc.z.mem x q
 have m1:=h.de.more (Y:=X++xd pc v' A' c'.L pd gh vp) new (fun y q=>av _ (hd y q));have m2:=m1.keep k (fun s q=>by
  rcases aD.1 q with r|r
  ·exact⟨fun t=>(h.ne s t).1 r,.inl (av _ (h.cs.ch.mem s r))⟩
  ·exact⟨fun t=>(h.ne s t).2 r,.inl (av _ (h.cs.z.mem s r))⟩)
 refine⟨⟨fun y hy=>aj _ hy,fun y hy=> ?_,hc.sub inY (fun y hy=>aj _ (aj _ (av _ hy))) (fun y hy=>aj _ (aj _ (aj _ hy))),m2,fun y hy=>⟨fun q=> ?_,fun q=> ?_⟩⟩,new⟩
 ·rcases aD.1 hy with q|q
  ·exact h.limK k y q
  ·rcases aD.1 q with q|q
   ·exact h.limK k y (hd y q)
   ·rcases aD.1 q with q|q
    ·exact hc.ch.lim y q
    ·exact hc.z.b.lim y q
 ·rcases hv y q with r|r
  ·exact(h.ne y hy).1 r
  ·have:=(h.de.lim y hy).2;omega
 ·rw[ey] at q
  exact(h.ne y hy).2 q
theorem CD.cacheF (h:CD B w X pd pc pz gh mn lw hi O e v A V vp U d) (hv: ∀y∈cay pc v' A',y∈cay pc v A∨w.heap.size≤y) (hs:qE d.c.L c'.L) (hF: ∀f∈F,f∈X∧f∉xd pc v A d.c.L pd gh vp) (hX: ∀x∈X,x∈Y):
 ∀f∈F,f∈Y∧f∉xd pc v' A' c'.L pd gh vp:=fun f hf=>by
 obtain⟨a1,a2⟩:=hF f hf;refine⟨hX f a1,fun q=> ?_⟩;rcases aD.1 q with r|r
 ·exact a2 (av _ r)
 ·rcases aD.1 r with r|r
  ·rcases hv f r with t|t
   ·exact a2 (aj _ (av _ t))
   ·have:=(h.lim f a1).2;omega
  ·rw[hs.ys] at r
   exact a2 (aj _ (aj _ r))
theorem CD.pushF (h:CD B w X pd pc pz gh mn lw hi O e v A V vp U d) (hv: ∀y∈jF vp',y∈jF vp∨w.heap.size≤y) (hF: ∀f∈F,f∈X∧f∉xd pc v A d.c.L pd gh vp) (hX: ∀x∈X,x∈Y):
 ∀f∈F,f∈Y∧f∉xd pc v A d.c.L pd gh vp':=fun f hf=>by
 obtain⟨a1,a2⟩:=hF f hf;refine⟨hX f a1,fun q=> ?_⟩;rcases aD.1 q with r|r
 ·rcases aB.1 r with rfl|r
  ·exact a2 (av _ (aG ..))
  ·rcases aB.1 r with rfl|r
   ·exact a2 (av _ (ak _ (aG ..)))
   ·rcases hv f r with t|t
    ·exact a2 (av _ (ak _ (ak _ t)))
    ·have:=(h.lim f a1).2;omega
 ·exact a2 (aj _ r)
end
section
variable {X Y S:List Nat} {B:Nat} {ev:Nat→Addr} {w w':World} {pd pc pz gh e:Nat} {mn lw hi:Int} {O:List (List Int)} {v vp:Value} {A:SA} {V:HV} {U:List Value} {d:De} {c:Ca}
def Br:Value×Value:=(.slice none 0 0,.slice none 0 0)
theorem dnew_ok (pc:Nat) (n:Nat) (w:World) (n1:1≤n) (n4:n≤4):
 Calls Tryz.prog 47 #[.pointer (some ⟨pc,0,none⟩),.int .i64 n] w fun r w'=>r= .returned (.tuple #[.pointer (some ⟨w.heap.size+1,0,none⟩),.nilIface])∧w'=(w.alloc (.cells (l6 (List.replicate n Br)).toArray 147)).alloc (.cells #[.pointer (some ⟨pc,0,none⟩),.slice (some ⟨w.heap.size,0,none⟩) n n,.slice none 0 0] 150):=by
 have h:n=1∨n=2∨n=3∨n=4:=om;have em:madeCells (Value.agg #[.slice none 0 0,.slice none 0 0]).cells (n*2)=(l6 (List.replicate n Br)).toArray:=by rcases h with rfl|rfl|rfl|rfl<;>kernel_rfl
 have MK: ∀W:World,(Instr.makeSlice 148 (.int .i64 (n:Nat)) (.int .i64 (n:Nat))).run Tryz.prog W= .ok (.slice (some ⟨W.heap.size,0,none⟩) n n) (W.alloc (.cells (l6 (List.replicate n Br)).toArray 147)):=fun W=>by
  obtain⟨i0,hi0,hz0,hzs,hzb⟩:=info_parts (P:=Tryz.prog) (e:=147) (z:=.agg #[.slice none 0 0,.slice none 0 0]) (size:=2) (bytes:=48) kR;have:=run_make (P:=Tryz.prog) W 148 147 i0 _ Tryz.underlying148 hi0 hz0 .i64 .i64 (n:Nat) (n:Nat) om (cO _) (by rw[hzb];omega) om;rw[this,hzs,←em];simp only[bQ]
 rcases h with rfl|rfl|rfl|rfl
 ·have MK':(Instr.makeSlice 148 (.int .i64 1) (.int .i64 1)).run Tryz.prog w= .ok (.slice (some ⟨w.heap.size,0,none⟩) 1 1) (w.alloc (.cells (l6 (List.replicate 1 Br)).toArray 147)):=MK w
  clear MK em;go_enter Tryz.func47,Tryz.ntmps47;go_wp2;go_ret2
  exact⟨rfl,rfl⟩
 ·have MK':(Instr.makeSlice 148 (.int .i64 2) (.int .i64 2)).run Tryz.prog w= .ok (.slice (some ⟨w.heap.size,0,none⟩) 2 2) (w.alloc (.cells (l6 (List.replicate 2 Br)).toArray 147)):=MK w
  clear MK em;go_enter Tryz.func47,Tryz.ntmps47;go_wp2;go_ret2
  exact⟨rfl,rfl⟩
 ·have MK':(Instr.makeSlice 148 (.int .i64 3) (.int .i64 3)).run Tryz.prog w= .ok (.slice (some ⟨w.heap.size,0,none⟩) 3 3) (w.alloc (.cells (l6 (List.replicate 3 Br)).toArray 147)):=MK w
  clear MK em;go_enter Tryz.func47,Tryz.ntmps47;go_wp2;go_ret2
  exact⟨rfl,rfl⟩
 ·have MK':(Instr.makeSlice 148 (.int .i64 4) (.int .i64 4)).run Tryz.prog w= .ok (.slice (some ⟨w.heap.size,0,none⟩) 4 4) (w.alloc (.cells (l6 (List.replicate 4 Br)).toArray 147)):=MK w
  clear MK em;go_enter Tryz.func47,Tryz.ntmps47;go_wp2;go_ret2
  exact⟨rfl,rfl⟩
theorem sQ (h:CD B w X pd pc pz gh mn lw hi O e v A V vp U d) (k:Nat) (hk:k<d.H.length):
 Calls Tryz.prog 73 #[.pointer (some ⟨pd,0,none⟩),.int .i64 k] w fun r w'=>r= .returned (.tuple #[.pointer (some ⟨gh,k*2,none⟩),.nilIface])∧w'=w:=by
 have c0:=h.de.d.gC 0;have c1:=h.de.d.gC 1;have cl:=h.de.d.lt;obtain⟨n,hn⟩:=eY d.H.length;rw[←hn] at c1 hk;have h0:decide ((k:Int)<0)=false:=decide_eq_false om;have h1:decide ((n:Int)≤k)=false:=decide_eq_false om;have h2:(k:Int)<n:=om;clear h hn;go_enter Tryz.func73,Tryz.ntmps73;go_wp2;go_ret2
 exact⟨rfl,rfl⟩
theorem FJ (hE:yT B ev w) (h:CD B w X pd pc pz gh mn lw hi O e v A V vp U d) (k:Int) (hk:k<0∨(d.H.length:Int)≤k):
 Calls Tryz.prog 73 #[.pointer (some ⟨pd,0,none⟩),.int .i64 k] w fun r w'=>r= .returned (.tuple #[.pointer none,jW ev 2])∧Below w.heap.size w w':=by
 have c0:=h.de.d.gC 0;have c1:=h.de.d.gC 1;have cl:=h.de.d.lt;obtain⟨n,hn⟩:=eY d.H.length;rw[←hn] at c1 hk;have r2:=hE.c2;have e1:jW ev 2= .iface 336 (.pointer (some (ev 2))):=rfl;have l2:=aC hE.l2 hE.size;rw[e1] at r2 ⊢;clear h hn hE;by_cases h1:k<0
 ·have d1:decide (k<0)=true:=decide_eq_true h1
  go_enter Tryz.func73,Tryz.ntmps73;go_wp2_with fail;go_quiet (fail);go_wp2;go_ret2
  exact⟨rfl,jK⟩
 ·have d1:decide (k<0)=false:=decide_eq_false h1
  have d2:decide ((n:Int)≤k)=true:=decide_eq_true om;go_enter Tryz.func73,Tryz.ntmps73;go_wp2_with fail;go_quiet (fail);go_wp2;go_ret2
  exact⟨rfl,jK⟩
theorem Oh (g o:Nat) (p p':Option Addr) (n n' k k':Nat) (a b:Value) (ha:a= .slice p n k) (hb:b= .slice p' n' k') (w:World) (h0:w.cell? ⟨g,o,none⟩=some a) (h1:w.cell? ⟨g,o+1,none⟩=some b) (f0:w.frozen? ⟨g,o,none⟩=false) (f1:w.frozen? ⟨g,o+1,none⟩=false) (hl:g<w.heap.size):
 Calls Tryz.prog 74 #[.pointer (some ⟨g,o,none⟩)] w fun r w'=>r= .returned (.tuple #[])∧w'=((w.setCell ⟨g,o,none⟩ b).setCell ⟨g,o+1,none⟩ a).drew:=by
 subst ha hb;go_enter Tryz.func74,Tryz.ntmps74;go_wp2_with fail;go_region
 exact bodyPost_end (v:=.tuple #[]) (by simp[results,Tryz.results74,go_sem]) rfl ⟨rfl,rfl⟩
end
section
variable {X Y S F G:List Nat} {B:Nat} {ev:Nat→Addr} {w w' w0 w1:World} {pd pc pz gh e:Nat} {mn lw hi:Int} {O:List (List Int)} {v vp:Value} {A:SA} {V:HV} {U:List Value} {d d':De} {c c':Ca}
def DrnPost (B:Nat) (ev:Nat→Addr) (pd pc pz gh:Nat) (mn lw hi:Int) (O:List (List Int)) (e:Nat) (X F:List Nat) (w:World) (r:De×Nat×Nat) (en:Ending) (w':World):Prop:=
 en= .returned (.tuple #[.int .i64 r.2.2,jW ev r.2.1])∧CDx B w' X F pd pc pz gh mn lw hi O e r.1∧Keep (off X F) w w'
end
end Go.Proofs.YtehhldljdakgeaaGreatDoor
