/- Lemmas and contracts for the claim's last text: SFull, SFullW, SApart, DPl, DB, DOps, SAp, DDrain. -/
import Derived.Test.YtdcbhlcbiokbeaaGreatDoorPf01
import Derived.Test.YtdcbhlcbiokbeaaGreatDoorPf11
set_option linter.unusedSimpArgs false
set_option linter.unusedVariables false
set_option maxHeartbeats 16000000
set_option maxRecDepth 100000
namespace Go.Proofs.YtdcbhlcbiokbeaaGreatDoor
section
theorem zF {n:Int} {F T:List (Int×Int)} (h:Inv n F T) (hs:jM F=0):F=[]:=by
 cases F with
 |nil=>rfl
 |cons p r=>
  have h1:=jH r
  have h2:jM (p::r)=sz p.2+jM r:=rfl
  have h3:0<sz p.2:=jo _
  omega
theorem CZ {n:Int} {F T:List (Int×Int)} (h:Inv n F T) (hb:jA 0 F=none):jM F=0:=by
 cases F with
 |nil=>rfl
 |cons p r=>
  have:=A9 hb p sI
  have:=(h.rngF (p:=p) sI).2.2.1
  omega
theorem take_one {mn:Int} {O:List (List Int)} {x:Nd} (hO:nM O 1) (hI:Inv x.n x.F x.T):
 (jM x.F=0→iQ mn O [x] 0 0 true=([x],5,(0,0,0)))∧
 (0<jM x.F→∃b,jA 0 x.F=some b∧qE x.T b.1=none∧iQ mn O [x] 0 0 true=([qj 0 b x],0,(0,b.1,0))):=by
 obtain⟨D,hD,hl,hm,hc⟩:=oq (mn:=mn) (u:=true) (k:=0) (L:=[x]) (v:=0) (by simpa using hO) sI
 have h0:(0:Int)∈D:=(hm 0).2 sI
 rcases hc with⟨hp,e⟩|⟨j,y,b,hp,j0,j1,hx,hk,hb,e⟩
 ·have hn:yZ mn 0 true [x] 0=false:=by
   have:=eY.1 hp 0 h0
   simpa using this
  have hb:jA 0 x.F=none:=by
   simp only[yZ,okN,mayN,Int.toNat_zero,gB,Bool.true_or,Bool.true_and] at hn
   cases hq:jA 0 x.F with
   |none=>rfl
   |some b=>rw[hq] at hn;cases hn
  have hs:=CZ hI hb
  have hF:=zF hI hs
  refine⟨fun _=> ?_,fun q=>om⟩
  rw[e]
  have:xK 0 [x]=5:=by unfold xK xJ;simp[hF]
  rw[this]
 ·obtain rfl:j=0:=by simp at j1;omega
  simp at hx
  subst hx
  refine⟨fun q=> ?_,fun _=>⟨b,hb,u7 hI (jq hb).1,by rw[e];rfl⟩⟩
  have:=zF hI q
  have h2:=(jq hb).1
  rw[this] at h2;cases h2
theorem sum_ins (f:Sl→Nat) (C:List Sl) (s:Sl):((qP C s).map f).sum=(C.map f).sum+f s:=by
 have:((C.take (mF s.nd s.pg C)).map f).sum+((C.drop (mF s.nd s.pg C)).map f).sum=(C.map f).sum:=by
  rw[←List.sum_append,←dX,bT]
 unfold qP
 simp only[dX,bF,List.sum_append,List.sum_cons]
 omega
theorem D5 (f:Sl→Nat): ∀(C:List Sl) (i:Nat) (s t:Sl),C[i]?=some s→((C.set i t).map f).sum+f s=(C.map f).sum+f t
 |[],i,s,t,h=>by simp at h
 |c::C,0,s,t,h=>by simp at h;subst h;simp;omega
 |c::C,i+1,s,t,h=>by
  have:=D5 f C i s t (by simpa using h)
  simp only[List.set_cons_succ,bF,List.sum_cons];omega
theorem yc (f:Sl→Nat) (r:Nat): ∀(C:List Sl),(∀s∈C,f s=r)→(C.map f).sum=C.length*r
 |[],h=>sI
 |c::C,h=>by
  have:=yc f r C fun s q=>h s (au _ q)
  have h1:=h c sI
  simp[this,h1,Nat.succ_mul];omega
theorem yg (f:Sl→Nat) (r:Nat): ∀(C:List Sl),(∀s∈C,f s≤r)→(C.map f).sum≤C.length*r∧((C.map f).sum=C.length*r→∀s∈C,f s=r)
 |[],h=>sI
 |c::C,h=>by
  obtain⟨h1,h2⟩:=yg f r C fun s q=>h s (au _ q)
  have h3:=h c sI
  simp only[bF,List.sum_cons,cK,Nat.succ_mul]
  refine⟨om,fun q s hs=> ?_⟩
  rcases aB.1 hs with rfl|hs
  ·omega
  ·exact h2 om s hs
structure jS (pages:Nat) (e i:Nat) (c:Ca):Prop where
 inv:nS e c
 one: ∃x,c.L=[x]∧jM x.F=pages-(c.C.length:Int)
 tk:su c.C=i
section
variable {mn:Int} {O:List (List Int)} {pages e i:Nat} {c:Ca}
theorem jS.nd (h:jS pages e i c) {s:Sl} (hs:s∈c.C):s.nd=0:=by
 obtain⟨x,hx,_⟩:=h.one
 have:=(h.inv.tk s hs).rng h.inv.zi
 rw[hx] at this;simp at this;omega
theorem jS.le (h:jS pages e i c):c.C.length≤pages:=by
 obtain⟨x,hx,hs⟩:=h.one
 have:=jH x.F
 omega
theorem jS.room (h:jS pages e i c):Ch c.C=c.C.length*iG e:=yc _ _ _ fun s hs=>h.inv.len s hs
theorem jS.max (h:jS pages e i c):i≤c.C.length*iG e:=by
 rw[←h.tk]
 exact(yg iC (iG e) c.C fun s hs=>by rw[←h.inv.len s hs];exact l8 _).1
theorem jS.none_ (h:jS pages e i c) (hb:jJ 0 c.C c.C.length=none):i=c.C.length*iG e:=by
 rw[←h.tk]
 refine yc _ _ _ fun s hs=> ?_
 obtain⟨j,hj,hg⟩:=gU.1 hs
 have h1:=qm hb j s hj (ak.2 ⟨hj,hg⟩) (h.nd hs)
 have h2:iC s≤s.T.length:=l8 _
 rw[←h.inv.len s hs];omega
theorem jS.take (h:jS pages e i c) (hO:nM O 1) (hi:i<pages*iG e):
 (takeC mn O e c 0 true).2.1=0∧(takeC mn O e c 0 true).2.2.1=0∧jS pages e (i+1) (takeC mn O e c 0 true).1:=by
 have hI:=pF (mn:=mn) (O:=O) (v:=0) (u:=true) (by obtain⟨x,hx,_⟩:=h.one;rw[hx];exact hO) h.inv
 obtain⟨x,hx,hs⟩:=h.one
 have hv: ¬((0:Int)<0∨(c.L.length:Int)≤0):=by rw[hx];simp
 revert hI
 unfold takeC
 rw[if_neg hv]
 cases hb:jJ 0 c.C c.C.length with
 |some k=>
  obtain⟨_,s,hk,hn,hm⟩:=iY hb
  simp only[hk]
  intro hI
  refine⟨trivial,by rw[nR];exact hn,hI,⟨x,hx,by simpa using hs⟩,?_⟩
  obtain⟨f1,f2,_⟩:=jk hm
  have h1:=pq f2 true
  have h2:=D5 iC c.C k s (jB s (iL s.T) true) hk
  have h3:=h.tk
  have h4:iC (jB s (iL s.T) true)=jG (s.T.set (iL s.T) true):=rfl
  have h5:iC s=jG s.T:=rfl
  show((c.C.set k (jB s (iL s.T) true)).map iC).sum=i+1
  have h6:(c.C.map iC).sum=i:=h3
  simp only[if_true,eX,if_false] at h1
  omega
 |none=>
  have hfull:=h.none_ hb
  have hlt:c.C.length<pages:=by
   rcases dx c.C.length pages with q|q
   ·exact q
   ·have:=fG (iG e) q
    omega
  obtain⟨b,hbb,hf,et⟩:=(take_one (mn:=mn) hO (h.inv.zi x (by rw[hx];simp))).2 om
  simp only[hx,et,if_true]
  intro hI
  refine⟨trivial,trivial,hI,⟨qj 0 b x,rfl,?_⟩,?_⟩
  ·rw[xQ]
   show jM (oV 0 b x.F)=_
   rw[(h.inv.zi x (by rw[hx];simp)).yQ om hbb,hs]
   have:sz 0=1:=rfl
   push_cast;omega
  ·have h1:=sum_ins iC c.C (jB ⟨0,b.1,iM e⟩ 0 true)
   have h3:(c.C.map iC).sum=i:=h.tk
   have h4:=mX h.inv.e1 h.inv.e2
   have h5:=pq (T:=iM e) (k:=0) (b:=false) (by unfold iM;simp[dP];omega) true
   have h6:=qx e
   have h7:iC (jB ⟨0,b.1,iM e⟩ 0 true)=jG ((iM e).set 0 true):=rfl
   show((qP c.C (jB ⟨0,b.1,iM e⟩ 0 true)).map iC).sum=i+1
   simp only[if_true,eX,if_false] at h5
   omega
theorem jS.stop (h:jS pages e (pages*iG e) c) (hO:nM O 1):
 takeC mn O e c 0 true=(c,5,(0,0))∧su c.C=pages*iG e∧Ch c.C=pages*iG e∧∃x,c.L=[x]∧jM x.F=0:=by
 have hp:=mX h.inv.e1 h.inv.e2
 have hm:=h.max
 have hl:=h.le
 have hC:c.C.length=pages:=by
  have:=Nat.le_of_mul_le_mul_right hm hp
  omega
 obtain⟨x,hx,hs⟩:=h.one
 have hs0:jM x.F=0:=om
 refine⟨?_,h.tk,by rw[h.room,hC],x,hx,hs0⟩
 have hall:=(yg iC (iG e) c.C fun s hs=>by rw[←h.inv.len s hs];exact l8 _).2 (by have:=h.tk;unfold su at this;rw[this,hC])
 have hv: ¬((0:Int)<0∨(c.L.length:Int)≤0):=by rw[hx];simp
 unfold takeC
 rw[if_neg hv]
 have hb:jJ 0 c.C c.C.length=none:=by
  cases hb:jJ 0 c.C c.C.length with
  |none=>rfl
  |some k=>
   obtain⟨_,s,hk,hn,hm⟩:=iY hb
   have:=hall s (aD hk)
   rw[h.inv.len s (aD hk)] at hm
   omega
 rw[hb]
 simp only[hx,(take_one (mn:=mn) hO (h.inv.zi x (by rw[hx];simp))).1 hs0]
 have:c=⟨[x],c.C⟩:=by rw[←hx]
 simp
 exact this.symm
end
end
section
open Go.RowKit Go.Maps
attribute [local go_sem ↓] aO aP
theorem eqO (a k b m:Int) (w:World):(binOp .eql 49 (.agg #[.int .i64 a,.int .i64 k]) (.agg #[.int .i64 b,.int .i64 m])).run Tryz.prog w= .ok (.bool (a==b&&k==m)) w:=by
 have u3:=bD
 have a3:=gI
 have z3:=fQ
 have hS:Tryz.prog.underlying 49=some (.struct (Tryz.prog.fieldsOf 49)):=kR
 have hp:Tryz.prog.stoodInHeld 49=false:=kR
 rw[run_eql_struct,show(10000:Nat)=9999+1 from rfl,run_equalIn_agg w 9999 49 _ _ hS hp]
 simp only[Program.fieldsOf,Tryz.underlying49]
 go_simp
 by_cases h1:a=b<;>by_cases h2:k=m<;>simp[h1,h2]
theorem guardO:Tryz.prog.eqGuardType Tryz.prog.depth 49=false:=kR
theorem cov_sum {n:Int} (n0:0≤n):jM (mq 0 n)=n:=by
 have:=vG (lG n.toNat 0 n (aI _) n0)
 omega
theorem jS.start {pages e:Nat} {x:Nd} (hI:Inv x.n x.F x.T) (e1:1≤e) (e2:e≤64) (hF:x.F=mq 0 pages):jS pages e 0 ⟨[x],[]⟩:=
 ⟨⟨e1,e2,fun y hy=>by simp at hy;subst hy;exact hI,sI,List.Pairwise.nil,fun s hs=>(by cases hs),fun s hs=>(by cases hs)⟩,⟨x,rfl,by rw[hF,cov_sum om];simp⟩,rfl⟩
theorem zG: ∀{C:List Sl},(∀s∈C,s.T.length≤64)→su C≤Ch C∧Ch C≤64*C.length
 |[],_=>⟨aI _,aI _⟩
 |s::C,h=>by
  obtain⟨h1,h2⟩:=zG (C:=C) fun x hx=>h x (au _ hx)
  have h3:=h s sI
  have h4:iC s≤s.T.length:=l8 _
  unfold su Ch at*
  simp only[bF,List.sum_cons,cK]
  omega
section
variable {B:Nat} {ev:Nat→Addr} {pc pz e:Nat} {mn lw hi:Int} {O:List (List Int)} {X:List Nat} {vs:Value} {A:SA} {c:Ca} {w:World}
theorem D6 (v:Int) (u:Bool) (hE:qQ B ev w) (h:CS B w pc pz mn lw hi O e X vs A c) (hI:nS e c):
 Calls Tryz.prog 23 #[.pointer (some ⟨pc,0,none⟩),.int .i64 v,.bool u] w (oG B ev pc pz mn lw hi O e X vs A c w (takeC mn O e c v u)):=by
 by_cases hv:v<0∨(c.L.length:Int)≤v
 ·exact CQ v u hE h hv
 ·obtain⟨n,rfl⟩: ∃n:Nat,v=n:=⟨v.toNat,om⟩
  exact AB n u hE h hI hE.size om
theorem CS.new {L:List Nd} (h:je B w pz mn lw hi O L) (hL:0<L.length) (hB:B≤w.heap.size) (e:Nat):
 CS B (w.alloc (.cells #[.pointer (some ⟨pz,0,none⟩),.int .i64 e,.slice none 0 0] 200)) w.heap.size pz mn lw hi O e (w.heap.size::ys L) (.slice none 0 0) [] ⟨L,[]⟩:=by
 have b:Below w.heap.size w (w.alloc (.cells #[.pointer (some ⟨pz,0,none⟩),.int .i64 e,.slice none 0 0] 200)):=iq
 have hc:cay w.heap.size (.slice none 0 0) []=[w.heap.size]:=rfl
 refine⟨(h.toX.more (fun x hx=>au _ hx) (fun y hy=> ?_)).below b,⟨gX.mk_ w [.pointer (some ⟨pz,0,none⟩),.int .i64 e,.slice none 0 0] 200 rfl,⟨rfl,.inl ⟨rfl,rfl⟩⟩,rfl,fun i p s hp=>by simp at hp,fun y hy=> ?_,?_,fun y hy=> ?_⟩,fun y hy q=> ?_,hL⟩
 ·rcases aB.1 hy with rfl|q
  ·exact .inr (aI _)
  ·exact .inl q
 ·rw[hc] at hy;simp at hy;subst hy;exact aG ..
 ·rw[hc];simp
 ·rw[hc] at hy;simp at hy;subst hy;simp;exact hB
 ·rw[hc] at hy;simp at hy;subst hy
  have:=(h.b.lim _ q).2;omega
end
end
section
def behindO (e:Nat) (a b:Ob):Prop:=a.1<b.1∨a.1=b.1∧a.2+e≤b.2
theorem r9 {e:Nat} {s:Sl} {o:Ob}:o∈obsS e s↔∃k,s.T[k]?=some true∧o=nR e s k:=by
 unfold obsS
 rw[List.mem_filterMap]
 constructor
 ·rintro⟨k,_,h⟩
  split at h
  ·rename_i hk
   exact⟨k,hk,(aH h).symm⟩
  ·cases h
 ·rintro⟨k,hk,rfl⟩
  exact⟨k,dI.2 (ak.1 hk).1,by rw[if_pos hk]⟩
theorem kI {e:Nat} {C:List Sl} {o:Ob}:o∈mY e C↔∃s∈C,∃k,s.T[k]?=some true∧o=nR e s k:=by
 unfold mY
 simp only[eH,r9]
theorem D7 {e:Nat} (e1:1≤e) {s:Sl} (hl:s.T.length=iG e) {k:Nat} (hk:s.T[k]?=some true):s.pg*64≤(nR e s k).2∧(nR e s k).2+e≤s.pg*64+64∧(nR e s k).1=s.nd:=by
 have hlt:=(ak.1 hk).1
 rw[hl] at hlt
 have h1:(k+1)*e≤64:=cu (fG e (show k+1≤iG e by omega)) (Nat.div_mul_le_self 64 e)
 have h2:((k:Int)+1)*e≤64:=by exact_mod_cast h1
 have h3:0≤(k:Int)*e:=gq om om
 rw[Int.add_mul,Int.one_mul] at h2
 refine⟨?_,?_,rfl⟩
 ·show s.pg*64≤s.pg*64+(k:Int)*e
  omega
 ·show s.pg*64+(k:Int)*e+e≤_
  omega
theorem ob_one {e:Nat} {c:Ca} (h:nS e c) {o:Ob} (ho:o∈mY e c.C):0≤o.2∧o.2<16384∧o.2 / 64=(o.2+e-1) / 64:=by
 obtain⟨s,hs,k,hk,rfl⟩:=kI.1 ho
 have h1:=D7 h.e1 (h.len s hs) hk
 have h2:=h.rng hs
 have h3:=h.e1
 omega
def OnlyP (c:Ca):Prop:=∀(i:Nat) (x:Nd),c.L[i]?=some x→∀p∈x.T,∃s∈c.C,s.nd=i∧s.pg=p.1
def cntN (v:Int) (C:List Sl):Nat:=C.countP fun s=>decide (s.nd=v)
end
section
section
variable {e:Nat} {c:Ca}
theorem oH {C:List Sl} {x:Ob}:x∈mY e C↔∃(i:Nat) (s:Sl) (k:Nat),C[i]?=some s∧s.T[k]?=some true∧x=nR e s k:=by
 rw[kI]
 constructor
 ·rintro⟨s,hs,k,hk,rfl⟩
  obtain⟨i,hi,rfl⟩:=gU.1 hs
  exact⟨i,_,k,aA hi,hk,rfl⟩
 ·rintro⟨i,s,k,hs,hk,rfl⟩
  exact⟨s,aD hs,k,hk,rfl⟩
theorem ob_pg (e1:1≤e) {s:Sl} (hl:s.T.length=iG e) {k:Nat} (hk:k<s.T.length):0≤(k:Int)*e∧(k:Int)*e+e≤64:=by
 rw[hl] at hk
 have h1:(k+1)*e≤64:=cu (fG e (show k+1≤iG e by omega)) (Nat.div_mul_le_self 64 e)
 have h2:((k:Int)+1)*e≤64:=by exact_mod_cast h1
 rw[Int.add_mul,Int.one_mul] at h2
 exact⟨gq om om,h2⟩
theorem mul_inj {e k k':Nat} (e1:1≤e) (h:(k:Int)*e=(k':Int)*e):k=k':=by
 have h2:k*e=k'*e:=by exact_mod_cast h
 exact Nat.eq_of_mul_eq_mul_right om h2
theorem ob_at (h:nS e c) {i j:Nat} {s t:Sl} {k k':Nat} (hs:c.C[i]?=some s) (ht:c.C[j]?=some t) (hk:k<s.T.length) (hk':k'<t.T.length) (heq:nR e s k=nR e t k'):i=j∧k=k':=by
 have e1:=h.e1
 have a:=ob_pg e1 (h.len s (aD hs)) hk
 have b:=ob_pg e1 (h.len t (aD ht)) hk'
 unfold nR at heq
 injection heq with q1 q2
 have hi:=(ak.1 hs)
 have hj:=(ak.1 ht)
 obtain⟨li,ei⟩:=hi
 obtain⟨lj,ej⟩:=hj
 have hp:s.pg=t.pg:=om
 have hij:i=j:=by
  rcases fu i j with q|q|q
  ·have:=bY.1 h.srt i j li lj q
   rw[ei,ej] at this
   unfold ltS ltP at this;omega
  ·exact q
  ·have:=bY.1 h.srt j i lj li q
   rw[ei,ej] at this
   unfold ltS ltP at this;omega
 refine⟨hij,mul_inj e1 ?_⟩
 omega
theorem obs_set (h:nS e c) {i:Nat} {s:Sl} (hs:c.C[i]?=some s) {k:Nat} (hk:k<s.T.length) (b:Bool) (x:Ob):
 x∈mY e (c.C.set i (jB s k b))↔(x=nR e s k∧b=true)∨(x∈mY e c.C∧x≠nR e s k):=by
 have hil:=(ak.1 hs).1
 rw[oH]
 constructor
 ·rintro⟨j,z,m,hz,hm,rfl⟩
  by_cases hij:i=j
  ·subst hij
   rw[aQ hil] at hz
   obtain rfl:=aH hz
   simp only[jB] at hm
   by_cases hmk:k=m
   ·subst hmk
    rw[aQ hk] at hm
    exact .inl ⟨rfl,aH hm⟩
   ·rw[aY hmk] at hm
    refine .inr ⟨oH.2 ⟨i,s,m,hs,hm,rfl⟩,fun q=>hmk ?_⟩
    exact(ob_at h hs hs hk (ak.1 hm).1 (show nR e s k=nR e s m from q.symm)).2
  ·rw[aY hij] at hz
   refine .inr ⟨oH.2 ⟨j,z,m,hz,hm,rfl⟩,fun q=>hij ?_⟩
   exact(ob_at h hs hz hk (ak.1 hm).1 q.symm).1
 ·rintro(⟨rfl,rfl⟩|⟨hx,hne⟩)
  ·exact⟨i,jB s k true,k,aQ hil,by simp only[jB];exact aQ hk,rfl⟩
  ·obtain⟨j,z,m,hz,hm,rfl⟩:=oH.1 hx
   by_cases hij:i=j
   ·subst hij
    rw[hs] at hz
    obtain rfl:=aH hz
    have hmk:k≠m:=fun q=>hne (by rw[q])
    exact⟨i,jB s k b,m,aQ hil,by simp only[jB];rw[aY hmk];exact hm,rfl⟩
   ·exact⟨j,z,m,by rw[aY hij];exact hz,hm,rfl⟩
theorem uQ {mn:Int} {O:List (List Int)} (hO:nM O c.L.length) (h:nS e c) (v:Int) (u:Bool):
 ((takeC mn O e c v u).2.1=0∧(takeC mn O e c v u).2.2∉mY e c.C∧∀x,x∈mY e (takeC mn O e c v u).1.C↔x=(takeC mn O e c v u).2.2∨x∈mY e c.C)∨
 ((takeC mn O e c v u).2.1≠0∧(takeC mn O e c v u).1.C=c.C):=by
 have hI':=pF (mn:=mn) (v:=v) (u:=u) hO h
 revert hI'
 unfold takeC
 by_cases hv:v<0∨(c.L.length:Int)≤v
 ·rw[if_pos hv];intro _;exact .inr ⟨sI,rfl⟩
 rw[if_neg hv]
 cases hb:jJ v c.C c.C.length with
 |some i=>
  obtain⟨_,s,hs,_,hm⟩:=iY hb
  simp only[hs]
  intro _
  obtain⟨f1,f2,_⟩:=jk (T:=s.T) hm
  refine .inl ⟨trivial,fun hx=> ?_,fun x=> ?_⟩
  ·obtain⟨j,z,m,hz,hm',he⟩:=oH.1 hx
   obtain⟨q1,q2⟩:=ob_at h hs hz f1 (ak.1 hm').1 he
   subst q1 q2
   rw[hs] at hz
   obtain rfl:=aH hz
   rw[f2] at hm'
   cases hm'
  ·rw[obs_set h hs f1]
   constructor
   ·rintro(⟨q,_⟩|⟨q,_⟩)
    ·exact .inl q
    ·exact .inr q
   ·rintro(q|q)
    ·exact .inl ⟨q,rfl⟩
    ·by_cases hq:x=nR e s (iL s.T)
     ·exact .inl ⟨hq,rfl⟩
     ·exact .inr ⟨q,hq⟩
 |none=>
  simp only
  by_cases hz:(iQ mn O c.L v 0 u).2.1=0
  ·rw[if_pos hz]
   intro hI'
   generalize hnd:(iQ mn O c.L v 0 u).2.2.1=nd at*
   generalize hpg:(iQ mn O c.L v 0 u).2.2.2.1=pg at*
   generalize(iQ mn O c.L v 0 u).1=L' at*
   have e1:=h.e1
   have hr:=mX h.e1 h.e2
   have hnl:(iM e).length=iG e:=by unfold iM;simp
   have hob: ∀x,x∈obsS e (jB ⟨nd,pg,iM e⟩ 0 true)↔x=(nd,pg*64):=fun x=>by
    rw[r9]
    constructor
    ·rintro⟨k,hk,rfl⟩
     simp only[jB] at hk
     by_cases hk0:k=0
     ·subst hk0;simp[nR,jB]
     ·rw[aY (Ne.symm hk0)] at hk
      unfold iM at hk
      rw[dP] at hk
      split at hk<;>simp at hk
    ·rintro rfl
     exact⟨0,by simp only[jB];exact aQ (by rw[hnl];exact hr),by simp[nR,jB]⟩
   refine .inl ⟨rfl,fun hx=> ?_,fun x=> ?_⟩
   ·obtain⟨z,hzm,m,hm,he⟩:=kI.1 hx
    have hs:=hI'.srt
    have hz':=(nN (C:=c.C) (s:=jB ⟨nd,pg,iM e⟩ 0 true)).2 (.inr hzm)
    have hp:=D7 e1 (h.len z hzm) hm
    rw[←he] at hp
    simp only at hp
    have hpg2:z.pg=pg:=om
    have hnd2:z.nd=nd:=om
    unfold qP at hs
    obtain⟨s1,s2,s3⟩:=dw.1 hs
    rw[←bT (mF (jB ⟨nd,pg,iM e⟩ 0 true).nd (jB ⟨nd,pg,iM e⟩ 0 true).pg c.C) c.C] at hzm
    rcases aC.1 hzm with q|q
    ·have:=s3 z q _ (aG ..)
     unfold ltS ltP at this
     simp only[jB] at this
     omega
    ·have:=(aZ.1 s2).1 z q
     unfold ltS ltP at this
     simp only[jB] at this
     omega
   ·constructor
    ·intro hx
     obtain⟨z,hzm,m,hm,he⟩:=kI.1 hx
     rcases nN.1 hzm with q|q
     ·exact .inl ((hob x).1 (r9.2 ⟨m,by rw[←q];exact hm,by rw[←q];exact he⟩))
     ·exact .inr (kI.2 ⟨z,q,m,hm,he⟩)
    ·rintro(q|q)
     ·obtain⟨m,hm,he⟩:=r9.1 ((hob x).2 q)
      exact kI.2 ⟨_,nN.2 (.inl rfl),m,hm,he⟩
     ·obtain⟨z,hzm,m,hm,he⟩:=kI.1 q
      exact kI.2 ⟨z,nN.2 (.inr hzm),m,hm,he⟩
  ·rw[if_neg hz]
   intro _
   exact .inr ⟨hz,rfl⟩
def backC (e:Nat) (c:Ca) (l:List Ob):Ca:=l.foldl (fun c o=>(giveC e c o).1) c
end
abbrev Hd:=List Ob×List Ob
structure De where
 c:Ca
 H:List Hd
 P:List (List Ob)
def jc (h:Hd) (P:List (List Ob)):Hd×List (List Ob):=
 if h.1=[] then(if h.2=[] then(match P.getLast? with|some m=>((m,[]),P.dropLast)|none=>(h,P)) else((h.2,[]),P)) else(h,P)
def jX (h:Hd) (P:List (List Ob)):Hd×List (List Ob):=
 if h.1.length=4 then(if h.2=[] then(([],h.1),P) else(([],h.2),P++[h.1])) else(h,P)
def jD (d:De) (k:Int):Option Hd:=if k<0 then none else d.H[k.toNat]?
def pI (H:List Hd):List Ob:=H.flatMap fun h=>h.1++h.2
def held (d:De):List Ob:=pI d.H++d.P.flatten
def wE (e:Nat) (d:De) (o:Ob):Bool:=decide (o∈mY e d.c.C)&& !decide (o∈held d)
def takeD (mn:Int) (O:List (List Int)) (e:Nat) (d:De) (k v:Int) (u:Bool):De×Nat×Ob:=match jD d k with
 |none=>(d,2,(0,0))
 |some h=>match (jc h d.P).1.1.getLast? with
  |some o=>(⟨d.c,d.H.set k.toNat ((jc h d.P).1.1.dropLast,(jc h d.P).1.2),(jc h d.P).2⟩,0,o)
  |none=>(⟨(takeC mn O e d.c v u).1,d.H,d.P⟩,(takeC mn O e d.c v u).2.1,(takeC mn O e d.c v u).2.2)
def iU (e:Nat) (d:De) (k:Int) (o:Ob):De×Nat:=match jD d k with
 |none=>(d,2)
 |some h=>if wE e d o=true then(⟨d.c,d.H.set k.toNat ((jX h d.P).1.1++[o],(jX h d.P).1.2),(jX h d.P).2⟩,0) else(d,9)
def drainD (e:Nat) (d:De) (k:Int):De×Nat×Nat:=match jD d k with
 |none=>(d,2,0)
 |some h=>(⟨backC e d.c (h.1++h.2),d.H.set k.toNat ([],[]),d.P⟩,0,(h.1++h.2).length)
def emptyD (e:Nat) (d:De):De×Nat:=(⟨backC e d.c d.P.flatten,d.H,[]⟩,d.P.flatten.length)
structure lV (e:Nat) (d:De):Prop where
 c:nS e d.c
 hl:1≤d.H.length∧d.H.length≤4
 sub: ∀o∈held d,o∈mY e d.c.C
 nd:(held d).Nodup
 h4: ∀h∈d.H,h.1.length≤4∧h.2.length≤4
 p4: ∀m∈d.P,m.length=4
theorem kK {d:De} {k:Int} {h:Hd} (q:jD d k=some h):0≤k∧d.H[k.toNat]?=some h∧k.toNat<d.H.length∧(k.toNat:Int)=k:=by
 unfold jD at q
 split at q
 ·cases q
 ·exact⟨om,q,(ak.1 q).1,om⟩
theorem um {d:De} {k:Int} (q:jD d k=none):k<0∨(d.H.length:Int)≤k:=by
 unfold jD at q
 split at q
 ·exact .inl ‹_›
 ·have:=List.getElem?_eq_none_iff.1 q
  exact .inr om
theorem sG (a:Ob): ∀{H:List Hd} {k:Nat} {h:Hd} (g:Hd),H[k]?=some h→(pI (H.set k g)).count a+h.1.count a+h.2.count a=(pI H).count a+g.1.count a+g.2.count a
 |[],k,h,g,q=>by simp at q
 |b::H,0,h,g,q=>by
  simp at q;subst q
  show((g.1++g.2)++pI H).count a+_+_=((b.1++b.2)++pI H).count a+_+_
  simp only[dN];omega
 |b::H,k+1,h,g,q=>by
  have ih:=sG a (H:=H) (k:=k) g (by simpa using q)
  show((b.1++b.2)++pI (H.set k g)).count a+_+_=((b.1++b.2)++pI H).count a+_+_
  simp only[dN] at ih ⊢;omega
theorem D8 (a:Ob) (h:Hd) (P:List (List Ob)):(jc h P).1.1.count a+(jc h P).1.2.count a+(jc h P).2.flatten.count a=h.1.count a+h.2.count a+P.flatten.count a:=by
 unfold jc
 split
 ·rename_i q1
  split
  ·rename_i q2
   split
   ·rename_i m q3
    obtain⟨ys,rfl⟩:=eF.1 q3
    simp[q1,q2,dN]
    omega
   ·rfl
  ·simp[q1]
 ·rfl
theorem D9 (a:Ob) (h:Hd) (P:List (List Ob)):(jX h P).1.1.count a+(jX h P).1.2.count a+(jX h P).2.flatten.count a=h.1.count a+h.2.count a+P.flatten.count a:=by
 unfold jX
 split
 ·split
  ·rename_i q2
   simp[q2]
  ·simp[dN];omega
 ·rfl
theorem Da {h:Hd} {P:List (List Ob)} (h1:h.1.length≤4∧h.2.length≤4) (hp: ∀m∈P,m.length=4):((jc h P).1.1.length≤4∧(jc h P).1.2.length≤4)∧∀m∈(jc h P).2,m.length=4:=by
 unfold jc
 split
 ·split
  ·split
   ·rename_i m q3
    have:=hp m (List.mem_of_getLast? q3)
    exact⟨⟨by simp;omega,sI⟩,fun x hx=>hp x (List.dropLast_subset _ hx)⟩
   ·exact⟨h1,hp⟩
  ·exact⟨⟨h1.2,sI⟩,hp⟩
 ·exact⟨h1,hp⟩
theorem Db {h:Hd} {P:List (List Ob)} (h1:h.1.length≤4∧h.2.length≤4) (hp: ∀m∈P,m.length=4):((jX h P).1.1.length≤3∧(jX h P).1.2.length≤4)∧∀m∈(jX h P).2,m.length=4:=by
 unfold jX
 split
 ·rename_i q
  split
  ·exact⟨⟨sI,by simp[q]⟩,hp⟩
  ·refine⟨⟨sI,h1.2⟩,fun x hx=> ?_⟩
   rcases aC.1 hx with r|r
   ·exact hp x r
   ·simp at r;subst r;exact q
 ·exact⟨⟨by show h.1.length≤3;omega,h1.2⟩,hp⟩
theorem lV.of {e:Nat} {d:De} (c:nS e d.c) (hl:1≤d.H.length∧d.H.length≤4) (hs: ∀a,(held d).count a≤1∧((held d).count a=1→a∈mY e d.c.C)) (h4: ∀h∈d.H,h.1.length≤4∧h.2.length≤4) (p4: ∀m∈d.P,m.length=4):lV e d:=
 ⟨c,hl,fun o ho=>(hs o).2 (by have:=(hs o).1;have:=cB.2 ho;omega),List.nodup_iff_count.2 fun a=>(hs a).1,h4,p4⟩
theorem lV.cnt {e:Nat} {d:De} (h:lV e d) (a:Ob):(held d).count a≤1∧(0<(held d).count a→a∈mY e d.c.C):=⟨List.nodup_iff_count.1 h.nd a,fun q=>h.sub a (cB.1 q)⟩
theorem ru (d:De) (a:Ob):(held d).count a=(pI d.H).count a+d.P.flatten.count a:=by unfold held;rw[dN]
section
variable {mn:Int} {O:List (List Int)} {e:Nat} {d:De} {k v:Int} {u:Bool} {o:Ob} {h:Hd}
theorem jE (hh:jD d k=some h) (hl:(jc h d.P).1.1.getLast?=some o):takeD mn O e d k v u=(⟨d.c,d.H.set k.toNat ((jc h d.P).1.1.dropLast,(jc h d.P).1.2),(jc h d.P).2⟩,0,o):=by
 unfold takeD;rw[hh];simp only[hl]
theorem jl (hh:jD d k=some h) (hl:(jc h d.P).1.1.getLast?=none):takeD mn O e d k v u=(⟨(takeC mn O e d.c v u).1,d.H,d.P⟩,(takeC mn O e d.c v u).2.1,(takeC mn O e d.c v u).2.2):=by
 unfold takeD;rw[hh];simp only[hl]
theorem pJ (hh:jD d k=none):takeD mn O e d k v u=(d,2,(0,0)):=by unfold takeD;rw[hh]
theorem Dc (hh:jD d k=some h) (hl:(jc h d.P).1.1.getLast?=some o) (a:Ob):(held (takeD mn O e d k v u).1).count a+(if o=a then 1 else 0)=(held d).count a:=by
 rw[jE hh hl,ru,ru]
 obtain⟨_,h1,_⟩:=kK hh
 have c1:=sG a ((jc h d.P).1.1.dropLast,(jc h d.P).1.2) h1
 have c2:=D8 a h d.P
 obtain⟨ys,hy⟩:=eF.1 hl
 simp only[hy,List.dropLast_concat,dN,List.count_singleton,beq_iff_eq] at c1 c2 ⊢
 by_cases q:o=a
 ·simp only[q,if_true] at c2 ⊢;omega
 ·simp only[q,if_false] at c2 ⊢;omega
theorem nu (hO:nM O d.c.L.length) (hI:lV e d):lV e (takeD mn O e d k v u).1:=by
 cases hh:jD d k with
 |none=>rw[pJ hh];exact hI
 |some h=>
  cases hl:(jc h d.P).1.1.getLast? with
  |some o=>
   have hc:=Dc (mn:=mn) (O:=O) (e:=e) (v:=v) (u:=u) hh hl
   obtain⟨k0,h1,h2,_⟩:=kK hh
   have hm:=Da (hI.h4 h (aD h1)) hI.p4
   rw[jE hh hl] at hc ⊢
   refine lV.of hI.c (by simpa using hI.hl) (fun a=> ?_) (fun g hg=> ?_) hm.2
   ·obtain⟨a1,a2⟩:=hI.cnt a
    have:=hc a
    exact⟨om,fun q=>a2 om⟩
   ·rcases dL hg with q|q
    ·exact hI.h4 g q
    ·subst q
     exact⟨by simp;omega,hm.1.2⟩
  |none=>
   rw[jl hh hl]
   refine lV.of (pF hO hI.c) hI.hl (fun a=> ?_) hI.h4 hI.p4
   obtain⟨a1,a2⟩:=hI.cnt a
   refine⟨a1,fun q=> ?_⟩
   have:=a2 (by show 0<(held d).count a;exact(by have:(held d).count a=1:=q;omega))
   rcases uQ (mn:=mn) (O:=O) hO hI.c v u with⟨_,_,t⟩|⟨_,t⟩
   ·exact(t a).2 (.inr this)
   ·show a∈mY e (takeC mn O e d.c v u).1.C
    rw[t];exact this
theorem zH (hh:jD d k=some h) (ho:wE e d o=true) (a:Ob):(held (iU e d k o).1).count a=(held d).count a+(if o=a then 1 else 0):=by
 unfold iU
 rw[hh]
 simp only[ho,if_true]
 rw[ru,ru]
 obtain⟨_,h1,_⟩:=kK hh
 have c1:=sG a ((jX h d.P).1.1++[o],(jX h d.P).1.2) h1
 have c2:=D9 a h d.P
 simp only[dN,List.count_singleton,beq_iff_eq] at c1 c2 ⊢
 by_cases q:o=a
 ·simp only[q,if_true] at c1 c2 ⊢;omega
 ·simp only[q,if_false] at c1 c2 ⊢;omega
theorem zI:wE e d o=true↔o∈mY e d.c.C∧o∉held d:=by unfold wE;simp
theorem wF (hI:lV e d):lV e (iU e d k o).1:=by
 cases hh:jD d k with
 |none=>
  have:iU e d k o=(d,2):=by unfold iU;rw[hh]
  rw[this];exact hI
 |some h=>
  by_cases ho:wE e d o=true
  ·have hc:=zH hh ho
   obtain⟨q1,q2⟩:=zI.1 ho
   obtain⟨k0,h1,h2,_⟩:=kK hh
   have hm:=Db (hI.h4 h (aD h1)) hI.p4
   have he:iU e d k o=(⟨d.c,d.H.set k.toNat ((jX h d.P).1.1++[o],(jX h d.P).1.2),(jX h d.P).2⟩,0):=by unfold iU;rw[hh];simp only[ho,if_true]
   rw[he] at hc ⊢
   dsimp only at hc ⊢
   refine lV.of hI.c (by simpa using hI.hl) (fun a=> ?_) (fun g hg=> ?_) hm.2
   ·obtain⟨a1,a2⟩:=hI.cnt a
    have:=hc a
    by_cases q:o=a
    ·subst q
     have z:(held d).count o=0:=List.count_eq_zero.2 q2
     simp only[if_true] at this
     exact⟨om,fun _=>q1⟩
    ·simp only[q,if_false] at this
     exact⟨om,fun r=>a2 om⟩
   ·rcases dL hg with q|q
    ·exact hI.h4 g q
    ·subst q
     exact⟨by simp;omega,hm.1.2⟩
  ·have he:iU e d k o=(d,9):=by unfold iU;rw[hh];simp only[ho];rfl
   rw[he];exact hI
theorem sH: ∀{l r:List Ob},l.Nodup→(∀x∈l,x∈r)→l.length≤r.length
 |[],r,_,_=>bC _
 |a::l,r,h,hs=>by
  obtain⟨h1,h2⟩:=aR.1 h
  have ha:=hs a sI
  have:=sH (l:=l) (r:=r.erase a) h2 fun x hx=>(List.mem_erase_of_ne (fun q=>h1 (by rw[←q];exact hx))).2 (hs x (au _ hx))
  rw[List.length_erase_of_mem ha] at this
  have:=List.length_pos_of_mem ha
  simp only[cK];omega
theorem pK (hI:lV e d):4*d.P.length≤(mY e d.c.C).length∧(held d).length≤(mY e d.c.C).length:=by
 have h1:=sH hI.nd hI.sub
 have h2: ∀{P:List (List Ob)},(∀m∈P,m.length=4)→P.flatten.length=4*P.length:=by
  intro P
  induction P with
  |nil=>intro _;rfl
  |cons a P ih=>
   intro h
   simp only[List.flatten_cons,bM,cK,ih fun m hm=>h m (au _ hm),h a sI]
   omega
 have h3:(held d).length=(pI d.H).length+d.P.flatten.length:=by unfold held;simp
 rw[h2 hI.p4] at h3
 omega
end
end
section
open Go.RowKit Go.Maps
def iV (X:List Nat) (w:World) (v:Value) (l:List Ob):Prop:=
 ∃p cap,v= .slice p l.length cap∧l.length≤cap∧cap≤maxLen∧∀j a k,l[j]?=some (a,k)→∃g off,p=some ⟨g,off,none⟩∧g∉X∧g<w.heap.size∧w.cell? ⟨g,off+j*2,none⟩=some (.int .i64 a)∧w.cell? ⟨g,off+j*2+1,none⟩=some (.int .i64 k)
section
variable {X Y S:List Nat} {w w':World} {v:Value} {l:List Ob}
theorem iV.nil (X:List Nat) (w:World):iV X w (.slice none 0 0) []:=⟨none,0,rfl,aI _,bC _,fun j a k hj=>by simp at hj⟩
theorem iV.keep (h:iV X w v l) (k:Keep S w w') (hs: ∀s∈S,s∈X∨w.heap.size≤s):iV X w' v l:=by
 obtain⟨p,cap,h1,h2,h3,h4⟩:=h
 refine⟨p,cap,h1,h2,h3,fun j a b hj=> ?_⟩
 obtain⟨g,off,e1,e2,e3,e4,e5⟩:=h4 j a b hj
 have hn:g∉S:=fun q=>by
  rcases hs g q with r|r
  ·exact e2 r
  ·omega
 exact⟨g,off,e1,e2,aF e3 k.size,(k.cell e3 hn).trans e4,(k.cell e3 hn).trans e5⟩
theorem iV.below (h:iV X w v l) (k:Below w.heap.size w w'):iV X w' v l:=h.keep (Keep.of (S:=[]) k) (fun _ q=>by cases q)
theorem iV.more (h:iV X w v l) (hY: ∀y∈Y,y∈X∨w.heap.size≤y):iV Y w v l:=by
 obtain⟨p,cap,h1,h2,h3,h4⟩:=h
 refine⟨p,cap,h1,h2,h3,fun j a b hj=> ?_⟩
 obtain⟨g,off,e1,e2,e3,e4,e5⟩:=h4 j a b hj
 exact⟨g,off,e1,fun q=>by
  rcases hY g q with r|r
  ·exact e2 r
  ·omega,e3,e4,e5⟩
theorem iV.cut (h:iV X w v l) (n:Nat) (hn:n≤l.length): ∃p cap,v= .slice p l.length cap∧iV X w (.slice p n cap) (l.take n):=by
 obtain⟨p,cap,h1,h2,h3,h4⟩:=h
 have e:(l.take n).length=n:=by rw[bL];omega
 refine⟨p,cap,h1,p,cap,by rw[e],om,h3,fun j a b hj=> ?_⟩
 rw[eZ] at hj
 split at hj
 ·exact h4 j a b hj
 ·cases hj
theorem iV.isSlice (h:iV X w v l): ∃p cap,v= .slice p l.length cap∧l.length≤cap∧cap≤maxLen:=by
 obtain⟨p,cap,h1,h2,h3,_⟩:=h
 exact⟨p,cap,h1,h2,h3⟩
theorem iV.at {p:Option Addr} {n cap:Nat} (h:iV X w (.slice p n cap) l) {j:Nat} {o:Ob} (hj:l[j]?=some o): ∃g off,p=some ⟨g,off,none⟩∧g∉X∧g<w.heap.size∧w.cell? ⟨g,off+j*2,none⟩=some (.int .i64 o.1)∧w.cell? ⟨g,off+j*2+1,none⟩=some (.int .i64 o.2):=by
 obtain⟨p',cap',h1,h2,h3,h4⟩:=h
 injection h1 with h1 _ _
 subst h1
 exact h4 j o.1 o.2 hj
theorem lX {base:Nat} (h:w.ownsRow base 49 2 v l.length (lU l)) (hX: ∀g,v.ownBlock=some g→g∉X):iV X w v l:=by
 have ho:=h
 obtain⟨_,h2⟩:=h
 rcases h2 with⟨rfl,h3⟩|⟨g,cap,cur,rfl,hg,hh,hcap,hmax,_⟩
 ·have:l=[]:=by
   cases l with
   |nil=>rfl
   |cons b r=>simp at h3
  subst this
  exact iV.nil X w
 ·refine⟨some ⟨g,0,none⟩,cap,rfl,hcap,hmax,fun j a k hj=>⟨g,0,rfl,hX g rfl,(ho.lt g rfl).2,?_⟩⟩
  have hlt:j<l.length:=(ak.1 hj).1
  obtain⟨e1,e2⟩:=oW l j a k hj
  rw[fA,ho.cellAt (j*2) om,ho.cellAt (j*2+1) om]
  exact⟨e1,e2⟩
end
abbrev HV:=List (Value×Value)
def iI (V:HV):List Value:=V.flatMap fun p=>[p.1,p.2]
theorem ji: ∀{V:HV} {j:Nat} {p:Value×Value},V[j]?=some p→(iI V)[j*2]?=some p.1∧(iI V)[j*2+1]?=some p.2
 |[],j,p,h=>by simp at h
 |a::V,0,p,h=>by simp at h;subst h;simp[iI]
 |a::V,j+1,p,h=>by
  have ih:=ji (V:=V) (j:=j) (p:=p) (by simpa using h)
  have e:iI (a::V)=a.1::a.2::iI V:=by simp[iI]
  rw[e,show(j+1)*2=j*2+1+1 from om]
  simpa using ih
theorem iH (V:HV):(iI V).length=V.length*2:=by
 induction V with
 |nil=>rfl
 |cons a V ih=>simp[iI] at ih ⊢;omega
theorem pO: ∀{V:HV} {j:Nat} (p:Value×Value),j<V.length→iI (V.set j p)=((iI V).set (j*2) p.1).set (j*2+1) p.2
 |[],j,p,h=>by simp at h
 |a::V,0,p,h=>by simp[iI]
 |a::V,j+1,p,h=>by
  have ih:=pO (V:=V) (j:=j) p (by simpa using h)
  have e: ∀U:HV,iI (a::U)=a.1::a.2::iI U:=fun U=>by simp[iI]
  rw[List.set_cons_succ,e,e,show(j+1)*2=j*2+1+1 from om,ih]
  simp
theorem elPile:El 91 79 (.slice none 0 0) 24:=⟨Tryz.underlying91,kR,rfl,om⟩
def day (pd gh:Nat) (vp:Value):List Nat:=pd::gh::gY vp
def xd (pc:Nat) (v:Value) (A:SA) (L:List Nd) (pd gh:Nat) (vp:Value):List Nat:=day pd gh vp++(cay pc v A++ys L)
structure DepB (X:List Nat) (B:Nat) (w:World) (pd pc gh:Nat) (V:HV) (vp:Value) (U:List Value) (H:List Hd) (P:List (List Ob)):Prop where
 d:gX w pd [.pointer (some ⟨pc,0,none⟩),.slice (some ⟨gh,0,none⟩) H.length H.length,vp]
 hs:gX w gh (iI V)
 hl:V.length=H.length
 ho: ∀(i:Nat) (p:Value×Value) (h:Hd),V[i]?=some p→H[i]?=some h→iV X w p.1 h.1∧iV X w p.2 h.2
 row:w.ownsRow B 79 1 vp P.length U
 ul:U.length=P.length
 po: ∀(i:Nat) (u:Value) (m:List Ob),U[i]?=some u→P[i]?=some m→iV X w u m
 mem: ∀y∈day pd gh vp,y∈X
 nd:(day pd gh vp).Nodup
 lim: ∀y∈day pd gh vp,B≤y∧y<w.heap.size
structure CD (B:Nat) (w:World) (X:List Nat) (pd pc pz gh:Nat) (mn lw hi:Int) (O:List (List Int)) (e:Nat) (v:Value) (A:SA) (V:HV) (vp:Value) (U:List Value) (d:De):Prop where
 x: ∀y∈xd pc v A d.c.L pd gh vp,y∈X
 lim: ∀y∈X,B≤y∧y<w.heap.size
 cs:CS B w pc pz mn lw hi O e X v A d.c
 de:DepB X B w pd pc gh V vp U d.H d.P
 ne: ∀y∈day pd gh vp,y∉cay pc v A∧y∉ys d.c.L
def CDx (B:Nat) (w:World) (X F:List Nat) (pd pc pz gh:Nat) (mn lw hi:Int) (O:List (List Int)) (e:Nat) (d:De):Prop:=∃v A V vp U,CD B w X pd pc pz gh mn lw hi O e v A V vp U d∧∀f∈F,f∈X∧f∉xd pc v A d.c.L pd gh vp
section
variable {X Y S F:List Nat} {B:Nat} {w w':World} {pd pc pz gh e:Nat} {mn lw hi:Int} {O:List (List Int)} {v v' vp vp':Value} {A A':SA} {V V':HV} {U U':List Value} {d d':De} {H:List Hd} {P:List (List Ob)} {c c':Ca}
theorem CS.sub (h:CS B w pc pz mn lw hi O e X v A c) (hY: ∀y∈Y,y∈X) (h1: ∀y∈cay pc v A,y∈Y) (h2: ∀y∈ys c.L,y∈Y):CS B w pc pz mn lw hi O e Y v A c:=by
 obtain⟨qn,kn,qo,ko,z1,z2,z3⟩:=h.z.z
 exact⟨⟨⟨qn,kn,qo,ko,z1,z2.sub hY,z3.sub hY⟩,h.z.b,h2,fun q=>h.z.out (hY _ q),fun x hx q=>h.z.outb x hx (hY _ q),h.z.ord,h.z.m0⟩,⟨h.ch.c,h.ch.row,h.ch.len,h.ch.sl,h1,h.ch.nd,h.ch.lim⟩,h.ne,h.l0⟩
theorem DepB.keep (h:DepB X B w pd pc gh V vp U H P) (k:Keep S w w') (hs: ∀s∈S,s∉day pd gh vp∧(s∈X∨w.heap.size≤s)):DepB X B w' pd pc gh V vp U H P:=
 ⟨h.d.keep k fun q=>(hs _ q).1 (aG ..),h.hs.keep k fun q=>(hs _ q).1 (au _ (aG ..)),h.hl,
  fun i p g hp hg=>⟨(h.ho i p g hp hg).1.keep k fun s q=>(hs s q).2,(h.ho i p g hp hg).2.keep k fun s q=>(hs s q).2⟩,
  gZ h.row k fun s q r=>(hs s q).1 (au _ (au _ r)),h.ul,fun i u m hu hm=>(h.po i u m hu hm).keep k fun s q=>(hs s q).2,h.mem,h.nd,
  fun y hy=>⟨(h.lim y hy).1,aF (h.lim y hy).2 k.size⟩⟩
theorem DepB.more (h:DepB X B w pd pc gh V vp U H P) (hY: ∀y∈Y,y∈X∨w.heap.size≤y) (hm: ∀y∈day pd gh vp,y∈Y):DepB Y B w pd pc gh V vp U H P:=
 ⟨h.d,h.hs,h.hl,fun i p g hp hg=>⟨(h.ho i p g hp hg).1.more hY,(h.ho i p g hp hg).2.more hY⟩,h.row,h.ul,fun i u m hu hm'=>(h.po i u m hu hm').more hY,hm,h.nd,h.lim⟩
theorem CD.limK (h:CD B w X pd pc pz gh mn lw hi O e v A V vp U d) (k:Keep S w w'): ∀y∈X,B≤y∧y<w'.heap.size:=fun y hy=>⟨(h.lim y hy).1,aF (h.lim y hy).2 k.size⟩
theorem CD.below (h:CD B w X pd pc pz gh mn lw hi O e v A V vp U d) (k:Below w.heap.size w w'):CD B w' X pd pc pz gh mn lw hi O e v A V vp U d:=
 ⟨h.x,h.limK (Keep.of (S:=[]) k),h.cs.below k,h.de.keep (Keep.of (S:=[]) k) (fun _ q=>by cases q),h.ne⟩
def off (X F:List Nat):List Nat:=X.filter fun x=> !F.contains x
theorem iO {s:Nat}:s∈off X F↔s∈X∧s∉F:=by unfold off;simp
theorem CD.offd (h:CD B w X pd pc pz gh mn lw hi O e v A V vp U d) (hF: ∀f∈F,f∈X∧f∉xd pc v A d.c.L pd gh vp) {s:Nat} (hs:s∈xd pc v A d.c.L pd gh vp):s∈off X F:=iO.2 ⟨h.x s hs,fun q=>(hF s q).2 hs⟩
theorem CD.offy (h:CD B w X pd pc pz gh mn lw hi O e v A V vp U d) (hF: ∀f∈F,f∈X∧f∉xd pc v A d.c.L pd gh vp) {s:Nat} (hs:s∈day pd gh vp):s∈off X F:=h.offd hF (av _ hs)
theorem CDx.lim (h:CDx B w X F pd pc pz gh mn lw hi O e d): ∀x∈X,B≤x∧x<w.heap.size:=by
 obtain⟨v,A,V,vp,U,h,_⟩:=h
 exact h.lim
theorem CDx.below (h:CDx B w X F pd pc pz gh mn lw hi O e d) (k:Below w.heap.size w w'):CDx B w' X F pd pc pz gh mn lw hi O e d:=by
 obtain⟨v,A,V,vp,U,h,hf⟩:=h
 exact⟨v,A,V,vp,U,h.below k,hf⟩
theorem CD.other (h:CD B w X pd pc pz gh mn lw hi O e v A V vp U d) (k:Keep S w w') (hs: ∀s∈S,(s∈X∨w.heap.size≤s)∧s∉xd pc v A d.c.L pd gh vp):CD B w' X pd pc pz gh mn lw hi O e v A V vp U d:=by
 have f1: ∀s∈S,s∉day pd gh vp:=fun s q r=>(hs s q).2 (av _ r)
 have f2: ∀s∈S,s∉cay pc v A:=fun s q r=>(hs s q).2 (aj _ (av _ r))
 have f3: ∀s∈S,s∉ys d.c.L:=fun s q r=>(hs s q).2 (aj _ (aj _ r))
 exact⟨h.x,h.limK k,h.cs.keep k (fun s q=>⟨f2 s q,(hs s q).1.imp (fun r=>⟨r,f3 s q⟩) id⟩),h.de.keep k (fun s q=>⟨f1 s q,(hs s q).1⟩),h.ne⟩
theorem CD.cache (h:CD B w X pd pc pz gh mn lw hi O e v A V vp U d) (hc:CS B w' pc pz mn lw hi O e Y v' A' c') (k:Keep (cay pc v A++ys d.c.L) w w') (hY: ∀x∈X,x∈Y) (hY2: ∀x∈Y,x∈X∨w.heap.size≤x) (hv: ∀y∈cay pc v' A',y∈cay pc v A∨w.heap.size≤y) (hs:jQ d.c.L c'.L):
 CD B w' (X++xd pc v' A' c'.L pd gh vp) pd pc pz gh mn lw hi O e v' A' V vp U ⟨c',d.H,d.P⟩∧(∀x∈X++xd pc v' A' c'.L pd gh vp,x∈X∨w.heap.size≤x):=by
 have ey:ys c'.L=ys d.c.L:=hs.ys
 have hd: ∀y∈day pd gh vp,y∈X:=h.de.mem
 have new: ∀x∈X++xd pc v' A' c'.L pd gh vp,x∈X∨w.heap.size≤x:=fun x hx=>by
  rcases aC.1 hx with q|q
  ·exact .inl q
  ·rcases aC.1 q with q|q
   ·exact .inl (hd x q)
   ·rcases aC.1 q with q|q
    ·rcases hv x q with r|r
     ·exact .inl (h.cs.ch.mem x r)
     ·exact .inr r
    ·rw[ey] at q
     exact .inl (h.cs.z.mem x q)
 have inY: ∀x∈X++xd pc v' A' c'.L pd gh vp,x∈Y:=fun x hx=>by
  rcases aC.1 hx with q|q
  ·exact hY x q
  ·rcases aC.1 q with q|q
   ·exact hY x (hd x q)
   ·rcases aC.1 q with q|q
    ·exact hc.ch.mem x q
    ·exact hc.z.mem x q
 have m1:=h.de.more (Y:=X++xd pc v' A' c'.L pd gh vp) new (fun y q=>av _ (hd y q))
 have m2:=m1.keep k (fun s q=>by
  rcases aC.1 q with r|r
  ·exact⟨fun t=>(h.ne s t).1 r,.inl (av _ (h.cs.ch.mem s r))⟩
  ·exact⟨fun t=>(h.ne s t).2 r,.inl (av _ (h.cs.z.mem s r))⟩)
 refine⟨⟨fun y hy=>aj _ hy,fun y hy=> ?_,hc.sub inY (fun y hy=>aj _ (aj _ (av _ hy))) (fun y hy=>aj _ (aj _ (aj _ hy))),m2,fun y hy=>⟨fun q=> ?_,fun q=> ?_⟩⟩,new⟩
 ·rcases aC.1 hy with q|q
  ·exact h.limK k y q
  ·rcases aC.1 q with q|q
   ·exact h.limK k y (hd y q)
   ·rcases aC.1 q with q|q
    ·exact hc.ch.lim y q
    ·exact hc.z.b.lim y q
 ·rcases hv y q with r|r
  ·exact(h.ne y hy).1 r
  ·have:=(h.de.lim y hy).2;omega
 ·rw[ey] at q
  exact(h.ne y hy).2 q
theorem CD.cacheF (h:CD B w X pd pc pz gh mn lw hi O e v A V vp U d) (hv: ∀y∈cay pc v' A',y∈cay pc v A∨w.heap.size≤y) (hs:jQ d.c.L c'.L) (hF: ∀f∈F,f∈X∧f∉xd pc v A d.c.L pd gh vp) (hX: ∀x∈X,x∈Y):
 ∀f∈F,f∈Y∧f∉xd pc v' A' c'.L pd gh vp:=fun f hf=>by
 obtain⟨a1,a2⟩:=hF f hf
 refine⟨hX f a1,fun q=> ?_⟩
 rcases aC.1 q with r|r
 ·exact a2 (av _ r)
 ·rcases aC.1 r with r|r
  ·rcases hv f r with t|t
   ·exact a2 (aj _ (av _ t))
   ·have:=(h.lim f a1).2;omega
  ·rw[hs.ys] at r
   exact a2 (aj _ (aj _ r))
theorem CD.pushF (h:CD B w X pd pc pz gh mn lw hi O e v A V vp U d) (hv: ∀y∈gY vp',y∈gY vp∨w.heap.size≤y) (hF: ∀f∈F,f∈X∧f∉xd pc v A d.c.L pd gh vp) (hX: ∀x∈X,x∈Y):
 ∀f∈F,f∈Y∧f∉xd pc v A d.c.L pd gh vp':=fun f hf=>by
 obtain⟨a1,a2⟩:=hF f hf
 refine⟨hX f a1,fun q=> ?_⟩
 rcases aC.1 q with r|r
 ·rcases aB.1 r with rfl|r
  ·exact a2 (av _ (aG ..))
  ·rcases aB.1 r with rfl|r
   ·exact a2 (av _ (au _ (aG ..)))
   ·rcases hv f r with t|t
    ·exact a2 (av _ (au _ (au _ t)))
    ·have:=(h.lim f a1).2;omega
 ·exact a2 (aj _ r)
end
end
section
open Go.RowKit Go.Maps
section
variable {X Y S:List Nat} {B:Nat} {ev:Nat→Addr} {w w':World} {pd pc pz gh e:Nat} {mn lw hi:Int} {O:List (List Int)} {v vp:Value} {A:SA} {V:HV} {U:List Value} {d:De} {c:Ca}
def sW:Value×Value:=(.slice none 0 0,.slice none 0 0)
theorem dnew_ok (pc:Nat) (n:Nat) (w:World) (n1:1≤n) (n4:n≤4):
 Calls Tryz.prog 35 #[.pointer (some ⟨pc,0,none⟩),.int .i64 n] w fun r w'=>r= .returned (.tuple #[.pointer (some ⟨w.heap.size+1,0,none⟩),.nilIface])∧w'=(w.alloc (.cells (iI (List.replicate n sW)).toArray 249)).alloc (.cells #[.pointer (some ⟨pc,0,none⟩),.slice (some ⟨w.heap.size,0,none⟩) n n,.slice none 0 0] 244):=by
 have h:n=1∨n=2∨n=3∨n=4:=om
 have em:madeCells (Value.agg #[.slice none 0 0,.slice none 0 0]).cells (n*2)=(iI (List.replicate n sW)).toArray:=by rcases h with rfl|rfl|rfl|rfl<;>kernel_rfl
 have MK: ∀W:World,(Instr.makeSlice 242 (.int .i64 (n:Nat)) (.int .i64 (n:Nat))).run Tryz.prog W= .ok (.slice (some ⟨W.heap.size,0,none⟩) n n) (W.alloc (.cells (iI (List.replicate n sW)).toArray 249)):=fun W=>by
  obtain⟨i0,hi0,hz0,hzs,hzb⟩:=info_parts (P:=Tryz.prog) (e:=249) (z:=.agg #[.slice none 0 0,.slice none 0 0]) (size:=2) (bytes:=48) kR
  have:=run_make (P:=Tryz.prog) W 242 249 i0 _ Tryz.underlying242 hi0 hz0 .i64 .i64 (n:Nat) (n:Nat) om (bZ _) (by rw[hzb];omega) om
  rw[this,hzs,←em]
  simp only[bV]
 rcases h with rfl|rfl|rfl|rfl
 ·have MK':(Instr.makeSlice 242 (.int .i64 1) (.int .i64 1)).run Tryz.prog w= .ok (.slice (some ⟨w.heap.size,0,none⟩) 1 1) (w.alloc (.cells (iI (List.replicate 1 sW)).toArray 249)):=MK w
  clear MK em
  go_enter Tryz.func35,Tryz.ntmps35
  go_wp2
  go_ret2
  exact⟨rfl,rfl⟩
 ·have MK':(Instr.makeSlice 242 (.int .i64 2) (.int .i64 2)).run Tryz.prog w= .ok (.slice (some ⟨w.heap.size,0,none⟩) 2 2) (w.alloc (.cells (iI (List.replicate 2 sW)).toArray 249)):=MK w
  clear MK em
  go_enter Tryz.func35,Tryz.ntmps35
  go_wp2
  go_ret2
  exact⟨rfl,rfl⟩
 ·have MK':(Instr.makeSlice 242 (.int .i64 3) (.int .i64 3)).run Tryz.prog w= .ok (.slice (some ⟨w.heap.size,0,none⟩) 3 3) (w.alloc (.cells (iI (List.replicate 3 sW)).toArray 249)):=MK w
  clear MK em
  go_enter Tryz.func35,Tryz.ntmps35
  go_wp2
  go_ret2
  exact⟨rfl,rfl⟩
 ·have MK':(Instr.makeSlice 242 (.int .i64 4) (.int .i64 4)).run Tryz.prog w= .ok (.slice (some ⟨w.heap.size,0,none⟩) 4 4) (w.alloc (.cells (iI (List.replicate 4 sW)).toArray 249)):=MK w
  clear MK em
  go_enter Tryz.func35,Tryz.ntmps35
  go_wp2
  go_ret2
  exact⟨rfl,rfl⟩
theorem lq (h:CD B w X pd pc pz gh mn lw hi O e v A V vp U d) (k:Nat) (hk:k<d.H.length):
 Calls Tryz.prog 146 #[.pointer (some ⟨pd,0,none⟩),.int .i64 k] w fun r w'=>r= .returned (.tuple #[.pointer (some ⟨gh,k*2,none⟩),.nilIface])∧w'=w:=by
 have c0:=h.de.d.c 0 _ rfl;have c1:=h.de.d.c 1 _ rfl;have cl:=h.de.d.lt
 obtain⟨n,hn⟩: ∃n,n=d.H.length:=⟨_,rfl⟩
 rw[←hn] at c1 hk
 have h0:decide ((k:Int)<0)=false:=decide_eq_false om
 have h1:decide ((n:Int)≤k)=false:=decide_eq_false om
 have h2:(k:Int)<n:=om
 clear h hn
 go_enter Tryz.func146,Tryz.ntmps146
 go_wp2
 go_ret2
 exact⟨rfl,rfl⟩
theorem wG (hE:qV B ev w) (h:CD B w X pd pc pz gh mn lw hi O e v A V vp U d) (k:Int) (hk:k<0∨(d.H.length:Int)≤k):
 Calls Tryz.prog 146 #[.pointer (some ⟨pd,0,none⟩),.int .i64 k] w fun r w'=>r= .returned (.tuple #[.pointer none,iJ ev 2])∧Below w.heap.size w w':=by
 have c0:=h.de.d.c 0 _ rfl;have c1:=h.de.d.c 1 _ rfl;have cl:=h.de.d.lt
 obtain⟨n,hn⟩: ∃n,n=d.H.length:=⟨_,rfl⟩
 rw[←hn] at c1 hk
 have r2:=hE.c2
 have e1:iJ ev 2= .iface 434 (.pointer (some (ev 2))):=rfl
 have l2:=aF hE.l2 hE.size
 rw[e1] at r2 ⊢
 clear h hn hE
 by_cases h1:k<0
 ·have d1:decide (k<0)=true:=decide_eq_true h1
  go_enter Tryz.func146,Tryz.ntmps146
  go_wp2_with fail
  go_quiet (fail)
  go_wp2
  go_ret2
  exact⟨rfl,iq⟩
 ·have d1:decide (k<0)=false:=decide_eq_false h1
  have d2:decide ((n:Int)≤k)=true:=decide_eq_true om
  go_enter Tryz.func146,Tryz.ntmps146
  go_wp2_with fail
  go_quiet (fail)
  go_wp2
  go_ret2
  exact⟨rfl,iq⟩
theorem zJ (g o:Nat) (p p':Option Addr) (n n' k k':Nat) (a b:Value) (ha:a= .slice p n k) (hb:b= .slice p' n' k') (w:World) (h0:w.cell? ⟨g,o,none⟩=some a) (h1:w.cell? ⟨g,o+1,none⟩=some b) (f0:w.frozen? ⟨g,o,none⟩=false) (f1:w.frozen? ⟨g,o+1,none⟩=false) (hl:g<w.heap.size):
 Calls Tryz.prog 147 #[.pointer (some ⟨g,o,none⟩)] w fun r w'=>r= .returned (.tuple #[])∧w'=((w.setCell ⟨g,o,none⟩ b).setCell ⟨g,o+1,none⟩ a).drew:=by
 subst ha hb
 go_enter Tryz.func147,Tryz.ntmps147
 go_wp2_with fail
 go_region
 exact bodyPost_end (v:=.tuple #[]) (by simp[results,Tryz.results147,go_sem]) rfl ⟨rfl,rfl⟩
end
end
section
open Go.RowKit Go.Maps
theorem AP (e:Nat) (C:List Sl):(mY e C).length=su C:=by
 unfold mY su
 rw[List.length_flatMap]
 congr 1
 refine List.map_congr_left fun s _=> ?_
 unfold obsS iC jG
 rw[List.length_filterMap_eq_countP]
 have key: ∀T:List Bool,(List.range T.length).countP (fun k=>(if T[k]?=some true then some (nR e s k) else none).isSome)=T.countP id:=by
  intro T
  induction T with
  |nil=>rfl
  |cons b T ih=>
   rw[cK,List.range_succ_eq_map,List.countP_cons,List.countP_map]
   have e2:(List.range T.length).countP ((fun k=>(if (b::T)[k]?=some true then some (nR e s k) else none).isSome) ∘ Nat.succ)=(List.range T.length).countP (fun k=>(if T[k]?=some true then some (nR e s k) else none).isSome):=by
    refine List.countP_congr fun k _=> ?_
    simp only[Function.comp,List.getElem?_cons_succ,Nat.succ_eq_add_one]
    by_cases q:T[k]?=some true<;>simp[q]
   rw[e2,ih]
   cases b<;>simp
 exact key s.T
theorem qB {e:Nat} {c:Ca} (h:nS e c):(mY e c.C).length≤65536:=by
 rw[AP]
 obtain⟨h1,h2⟩:=zG (C:=c.C) fun s hs=>by rw[h.len s hs];unfold iG;exact fO _ _
 have:=h.few
 omega
structure ApS (B:Nat) (w0:World) (pc pz:Nat) (mn lw hi:Int) (O:List (List Int)) (e:Nat) (L:List Nd) (X:List Nat) (v:Value) (A:SA) (c:Ca) (w:World):Prop where
 cs:CS B w pc pz mn lw hi O e X v A c
 inv:nS e c
 only:OnlyP c
 same:jQ L c.L
 bel:Below B w0 w
section
variable {B:Nat} {ev:Nat→Addr} {w0 w w':World} {pc pz e:Nat} {mn lw hi:Int} {O:List (List Int)} {L:List Nd} {X:List Nat} {v:Value} {A:SA} {c:Ca}
end
end
section
open Go.RowKit Go.Maps
attribute [local go_sem ↓] aO aP
section
variable {X Y S F G:List Nat} {B:Nat} {ev:Nat→Addr} {w w' w0 w1:World} {pd pc pz gh e:Nat} {mn lw hi:Int} {O:List (List Int)} {v vp:Value} {A:SA} {V:HV} {U:List Value} {d d':De} {c c':Ca}
def DrnPost (B:Nat) (ev:Nat→Addr) (pd pc pz gh:Nat) (mn lw hi:Int) (O:List (List Int)) (e:Nat) (X F:List Nat) (w:World) (r:De×Nat×Nat) (en:Ending) (w':World):Prop:=
 en= .returned (.tuple #[.int .i64 r.2.2,iJ ev r.2.1])∧CDx B w' X F pd pc pz gh mn lw hi O e r.1∧Keep (off X F) w w'
end
end
end Go.Proofs.YtdcbhlcbiokbeaaGreatDoor
