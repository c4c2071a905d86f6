/- Lemmas and contracts for the claim's last text: PCancel, PNew, PFul, PStart. -/
import Derived.Test.YtehhldljdakgeaaGreatDoorQa01
import Derived.Test.YtehhldljdakgeaaGreatDoorQa28
import Derived.Test.YtehhldljdakgeaaGreatDoorQa32
set_option linter.unusedSimpArgs false
set_option linter.unusedVariables false
set_option maxHeartbeats 16000000
set_option maxRecDepth 100000
namespace Go.Proofs.YtehhldljdakgeaaGreatDoor
open Go.RowKit Go.Maps
attribute [local go_sem ↓] aJ aK
section
variable {pd pc pz e:Nat} {mn:Int} {O:List (List Int)} {ev:Nat→Addr} {w0:World} {E:tu pd pc pz e mn O ev w0} {X F:List Nat} {w w1:World} {pp:Nat} {p:Po}
theorem mH.post (h:mH E X F pp p w w1): ∃X1,PoX E X1 F pp p w1∧∀{p' r en w2},EPost (jZ E pp).S X1 F p' w1 r en w2→EPost (jZ E pp).S X F p' w r en w2:=by
 obtain⟨X1,h1,h2,h3,h4⟩:=h;refine⟨X1,h1,fun {p' r en w2} ⟨a,X2,k1,k2,k3,k4⟩=>⟨a,X2,k1,Gh h3 h2 k2,fun x q=> ?_,fun x q=>k4 x (h4 x q)⟩⟩;have z:=h2.size;rcases k3 x q with r|r
 ·exact h3 x r
 ·exact .inr om
theorem UW (t:Int) (h:PoX E X F pp p w) (hc:p.cl=true):
 Calls Tryz.prog 19 #[.pointer (some ⟨pp,0,none⟩),.int .i64 t] w (EPost (jZ E pp).S X F p w (jW ev 4)):=by
 have e4:jW ev 4= .iface 336 (.pointer (some (ev 4))):=rfl;rw[e4];have FIN:Hid (EPost (jZ E pp).S X F p w (.iface 336 (.pointer (some (ev 4)))) (.returned (.iface 336 (.pointer (some (ev 4))))) w):=⟨rfl,mH.refl h⟩;have HE:=h.err;obtain⟨⟨bt,bg,vr,vw,q⟩,hi⟩:=h;have c7:=q.b.c.gC 7;have cl:=q.b.c.lt;rw[hc] at c7;have gs:w.cell? ⟨2,0,none⟩=some (.iface 336 (.pointer (some (ev 4)))):=(HE.at 4 (by decide) (by decide)).1;have gl:2<w.heap.size:=(HE.at 4 (by decide) (by decide)).2;clear q hi HE hc e4;go_enter Tryz.func19,Tryz.ntmps19;go_wp2;go_ret;exact FIN.out
theorem UY (t:Int) (h:PoX E X F pp p w) (hc:p.cl=false) (ht:t∈p.W) (hP:mO e ⟨p.d,p.most,p.R,p.T,p.W.erase t,p.G,p.last,p.cl⟩):
 Calls Tryz.prog 19 #[.pointer (some ⟨pp,0,none⟩),.int .i64 t] w (EPost (jZ E pp).S X F ⟨p.d,p.most,p.R,p.T,p.W.erase t,p.G,p.last,p.cl⟩ w .nilIface):=by
 obtain⟨⟨bt,bg,vr,vw,q⟩,hi⟩:=h;have HI:=ah hi;obtain⟨i,hx⟩: ∃i,IB p.W t=some i:=by
  cases hx:IB p.W t with
  |none=>exact absurd ht (pQ.1 hx)
  |some i=>exact⟨i,rfl⟩
 obtain⟨x1,x2,x3⟩:=qM hx;have hil:=(au.1 x1).1;have IX:=xI vw p.W t w q.b.rowW (by have:=hi.w;omega);have ev':Da p.W t=(i:Int):=by unfold Da;rw[hx]
 rw[ev'] at IX;have HIX:=ah IX;have c7:=q.b.c.gC 7;have c4:=q.b.c.gC 4;have cl:=q.b.c.lt;have f4:=q.b.c.f 4 (by simp[jT]);rw[hc] at c7;have O4:=q.b.ow;obtain⟨gw,kw,rfl⟩: ∃gw kw,vw= .slice (some ⟨gw,0,none⟩) p.W.length kw:=by
  rcases O4.2 with⟨_,e2⟩|⟨g,cap,cur,e,_⟩
  ·omega
  ·exact⟨_,_,e⟩
 obtain⟨N,hN⟩:=eY p.W.length;have HN:=ah hN;have N8:N≤8:=by have:=hi.w;omega
 have iN:i<N:=om;have CL0:=Ay _ p.W w O4 om;rw[←hN] at CL0 c4 IX;have CL:=ah CL0;have HIX:=ah IX;have DL:Hid (∀W B g kk,W.ownsRow B 3 1 (.slice (some ⟨g,0,none⟩) N kk) N (ints p.W)→Calls Tryz.prog 65 #[.slice (some ⟨g,0,none⟩) N kk,.int .i64 i,.int .i64 ((i:Int)+1)] W fun r w'=>r= .returned (.slice (some ⟨g,0,none⟩) (N-1) kk)∧w'.ownsRow B 3 1 (.slice (some ⟨g,0,none⟩) (N-1) kk) (N-1) (ints (p.W.erase t))∧Keep [g] W w'):=fun W B g kk ho=>by
  obtain⟨rest,r1,r2,r3,r4,r5,r6⟩:=yX ho;have:=UN (B:=B) g kk i (ints p.W) rest W r1 r2 r5 r6 (by rw[r3];exact iN) (rC _) (by rw[r3];omega);rw[r3] at this;refine(show Calls Tryz.prog 65 #[.slice (some ⟨g,0,none⟩) N kk,.int .i64 i,.int .i64 ((i:Int)+1)] W (zq B g kk i (ints p.W) W) from this).mono fun r w' ⟨a,b,c⟩=> ?_
  rw[r3] at a b;have ee:(ints p.W).eraseIdx i=ints (p.W.erase t):=by rw[x3];unfold ints;rw[dK,dK,dI,List.map_take,List.map_drop]
  rw[ee] at b;exact⟨a,b,c⟩
 have HQ:=ah q;have hle:(p.W.erase t).length=N-1:=by rw[iX ht,hN]
 have HLE:=ah hle;have FINP:=ah hP;have i0:(0:Int)≤(i:Int):=om;have i1: ¬((i:Int)<0):=om;clear hi hx x1 x2 x3 hil IX CL0 q O4 hP hN ev' hle ht hc;go_enter Tryz.func19,Tryz.ntmps19;go_wp2_with fail;refine HIX.out.mono ?_;rintro r w1 ⟨rfl,hw1⟩;obtain rfl:=hw1.symm;go_wp2_with fail;refine CL.out.mono ?_;rintro r w5 ⟨q5,k5,rfl,O5,hb5⟩;obtain⟨g5,rfl⟩: ∃g5,q5=some ⟨g5,0,none⟩:=by
  rcases O5.2 with⟨_,e2⟩|⟨g,cap,cur,e,_⟩
  ·omega
  ·exact⟨g,(eH e).1⟩
 have C5:=HQ.out.b.c.go hb5;have y4':=C5.gC 4;have yl':=C5.lt;have yf':=C5.f 4 (by simp[jT]);have g5l:=O5.lt g5 rfl;have HC5:=ah C5;have HB5:=ah hb5;clear c4 f4 cl C5 hb5 c7;go_wp2_with fail;refine(DL.out w5 _ g5 k5 O5).mono ?_;rintro r w6 ⟨rfl,O6,K6⟩;have pg:pp≠g5:=fun r=>by have:=HQ.out.b.c.lt;omega
 have C6:=HC5.out.keep K6 (by simpa using pg);have z4:=C6.gC 4;have zl:=C6.lt;have zf:=C6.f 4 (by simp[jT]);have HC6:=ah C6;have HK6:=ah K6;have HO6:=ah O6;clear y4' yl' yf' C6 K6 O6;go_wp2;go_ret;refine⟨rfl,?_⟩;obtain⟨w7,hw7⟩:=eY (w6.setCell ⟨pp,4,none⟩ (.slice (some ⟨g5,0,none⟩) (N-1) k5));rw[←hw7];have K7:Keep [pp] w6 w7:=by rw[hw7];exact(Keep.refl _ _).setCell (p:=⟨pp,4,none⟩) (.inl sI) _
 have z5:=HB5.out.size;have z6:=HK6.out.size;have z7:=K7.size;obtain⟨m_1,m_2,m_3,m_4,m_5,m_6⟩:=HQ.out.b.ne;have g5n: ∀s∈[g5],s∈pws pp bt bg (.slice (some ⟨gw,0,none⟩) p.W.length kw)∨w.heap.size≤s:=fun s r=>by simp at r;subst r;exact .inr om
 have KA:Keep (pws pp bt bg (.slice (some ⟨gw,0,none⟩) p.W.length kw)) w w7:=
  ((Keep.of HB5.out).trans HK6.out g5n).then (K7.mono (fun s r=>by simp at r;subst r;exact mG))
 have far: ∀y,y<w.heap.size→y∉[g5]:=fun y hy r=>by simp at r;omega
 have lt2:=fun y hy=>(HQ.out.b.lim y hy).2
 have lpp:=lt2 pp mG;have lbt:=lt2 bt mP;have lbg:=lt2 bg rz;refine HQ.out.putW (vw':=.slice (some ⟨g5,0,none⟩) (N-1) k5) (p':=⟨p.d,p.most,p.R,p.T,p.W.erase t,p.G,p.last,p.cl⟩) KA (fun y hy=> ?_) ?_ ?_ ?_ ?_ rfl rfl FINP.out
 ·have:y=g5:=by simpa[jF,Value.ownBlock,eq_comm] using hy
  subst this;exact .inr ⟨om,by have:=(HO6.out.lt y rfl).2;omega⟩
 ·rw[hw7]
  exact HC6.out.store 4 (.slice (some ⟨g5,0,none⟩) (N-1) k5) (by simp[jT])
 ·exact((HQ.out.b.t.below HB5.out).keep HK6.out (far bt om)).keep K7 (by simp;exact fun r=>m_1 r.symm)
 ·have:=jE HO6.out K7 (fun s r t'=>by
   simp at r;subst r;have:s=g5:=by simpa[jF,Value.ownBlock,eq_comm] using t'
   exact pg this)
  rw[HLE.out];exact rA this (by have:=(E.bel HQ.out.s).size;omega)
 ·exact((HQ.out.b.g.below HB5.out).keep HK6.out (far bg om)).keep K7 (by simp;exact fun r=>m_2 r.symm)
theorem UZ (t:Int) (h:PoX E X F pp p w) (hc:p.cl=false) (ht:t∉p.W) (hf:kL t) (hg:oC p.G t=none):
 Calls Tryz.prog 19 #[.pointer (some ⟨pp,0,none⟩),.int .i64 t] w (EPost (jZ E pp).S X F p w (jW ev 4)):=by
 have e4:jW ev 4= .iface 336 (.pointer (some (ev 4))):=rfl;rw[e4];have FIN:Hid (∀W,Below w.heap.size w W→EPost (jZ E pp).S X F p w (.iface 336 (.pointer (some (ev 4)))) (.returned (.iface 336 (.pointer (some (ev 4))))) W):=fun W b=>⟨rfl,mH.same h b⟩
 have HE:=h.err;obtain⟨⟨bt,bg,vr,vw,q⟩,hi⟩:=h;have c7:=q.b.c.gC 7;have c4:=q.b.c.gC 4;have c5:=q.b.c.gC 5;have cl:=q.b.c.lt;rw[hc] at c7;have IX:=xI vw p.W t w q.b.rowW (by have:=hi.w;omega);have ev':Da p.W t= -1:=by unfold Da;rw[pQ.2 ht]
 rw[ev'] at IX;have lk:=q.b.g.lookG hf;rw[hg] at lk;simp only[Option.getD_none,iR] at lk;have gs:w.cell? ⟨2,0,none⟩=some (.iface 336 (.pointer (some (ev 4)))):=(HE.at 4 (by decide) (by decide)).1;have gl:2<w.heap.size:=(HE.at 4 (by decide) (by decide)).2;have hb1:Below w.heap.size w (w.alloc (.cells #[.int .i64 0,.int .i64 0] 40)):=jK;obtain⟨qw,kw,rfl⟩:=kI q.b.ow;obtain⟨n,hn⟩:=eY p.W.length;rw[←hn] at c4 IX;have HIX:=ah IX;have HB:=ah hb1;have gs':=(HB.out.cell (p:=⟨2,0,none⟩) gl).trans gs;have gl':=aC gl HB.out.size;clear q hi HE hc e4 ev' hn IX hb1 ht hg hf gs gl;go_enter Tryz.func19,Tryz.ntmps19;go_wp2_with fail;refine HIX.out.mono ?_;rintro r w1 ⟨rfl,rfl⟩;go_wp2;go_ret;exact FIN.out _ (by first|exact HB.out|exact jK)
theorem V3 (t:Int) (o:Ob) (h:PoX E X F pp p w) (hc:p.cl=false) (ht:t∉p.W) (hf:kL t) (hg:oC p.G t=some o) (hP:mO e (p.fetch t o)) (ho:pE o) (hT:o∉p.T) (hlast:p.last<4611686018427387904):
 Calls Tryz.prog 19 #[.pointer (some ⟨pp,0,none⟩),.int .i64 t] w (EPost (jZ E pp).S X F (mg e (p.fetch t o) 0 o).1 w (jW ev (mg e (p.fetch t o) 0 o).2)):=by
 have hx:=h.lim;obtain⟨⟨bt,bg,vr,vw,q⟩,hi⟩:=h;have c7:=q.b.c.gC 7;have c4:=q.b.c.gC 4;have c5:=q.b.c.gC 5;have cl:=q.b.c.lt;rw[hc] at c7;have IX:=xI vw p.W t w q.b.rowW (by have:=hi.w;omega);have ev':Da p.W t= -1:=by unfold Da;rw[pQ.2 ht]
 rw[ev'] at IX;have lk:=q.b.g.lookG hf;rw[hg] at lk;simp only[gQ,iT] at lk;have nbx:w.heap.size∉pws pp bt bg vw:=fun r=>by
  have:=(hx _ (E.qR q.s _ (av _ r))).2;omega
 obtain⟨qw,kw,rfl⟩:=kI q.b.ow;obtain⟨n,hn⟩:=eY p.W.length;rw[←hn] at c4 IX;have HIX:=ah IX;have hb3:Below w.heap.size w (w.alloc (bO o)):=by unfold bO;exact jK
 have q3:=q.go hb3;have L2:jD (w.alloc (bO o)) w.heap.size [.int .i64 o.1,.int .i64 o.2]:=jD.mk_ w [.int .i64 o.1,.int .i64 o.2] 40 rfl;obtain⟨W3,hW3⟩:=eX (w.alloc (bO o));rw[hW3] at hb3 q3 L2;obtain⟨w4,hrun4,M4,T4⟩:=q3.b.g.delG_ hf 0;obtain⟨m_1,m_2,m_3,m_4,m_5,m_6⟩:=q3.b.ne;have K4:Keep [bg] W3 w4:=lM T4 (.inl sI);have C4:=q3.b.c.keep K4 (by simpa using m_2);have B4:=L2.keep K4 (by simp;exact fun r=>nbx (r▸rz));have TM4:=q3.b.t.keep K4 (by simpa using m_3);obtain⟨w5,hrun5,M5,T5⟩:=(TM4.keep (Keep.refl [] w4).drew sI).ins hi.GZ ho hT hi.H7.1;have K5:Keep [bt] w4 w5:=(Keep.refl [bt] w4).drew.then (lM T5 (.inl sI));have C5:=C4.keep K5 (by simpa using m_1);have B5:=B4.keep K5 (by simp;exact fun r=>nbx (r▸mP));have G5:=M4.keep K5 (by simpa using m_3.symm);have x5:=C4.gC 3;have xl:=C4.lt;have v0:=B4.gC 0;have v1:=B4.gC 1;have vl:=B4.lt;have y0:=B5.gC 0;have y1:=B5.gC 1;have yl:=B5.lt;have d5:=q3.b.c.gC 5;have dl:=q3.b.c.lt;have MV:mH E X F pp (p.fetch t o) w w5:=by
  have KA:Keep [pp,bt,bg] w w5:=((Keep.of hb3).then (K4.mono (fun s r=>by simp at r;subst r;simp))).then (K5.mono (fun s r=>by simp at r;subst r;simp));exact q.putR (vr':=vr) (p':=p.fetch t o) KA C5 M5 G5 (q.b.r.keep KA (fun s r=>by simp at r;exact .inl (q.inX _ (r.elim (fun r=>r▸mG) (fun r=>r.elim (fun r=>r▸mP) (fun r=>r▸rz)))))) rfl rfl hP
 obtain⟨X1,h1,hpost⟩:=MV.post;have GV:=ah (Az 0 o ho (show(p.fetch t o).last<4611686018427387904 from hlast) h1);have HPOST:Hid (∀{p' r en w2},EPost (jZ E pp).S X1 F p' w5 r en w2→EPost (jZ E pp).S X F p' w r en w2):=hpost;obtain⟨ee,he⟩:=eX (jW ev (mg e (p.fetch t o) 0 o).2);rw[he] at GV;rw[he];clear hc IX ht hg L2 C4 B4 C5 B5 M4 M5 G5 TM4 K4 K5 T4 T5 q3 q hi hb3 hf ho hT hP nbx m_1 m_2 m_3 m_4 m_5 m_6 hn hx MV h1 hpost ev' hlast he;go_enter Tryz.func19,Tryz.ntmps19;unfold bO at hW3;go_wp2_with fail;refine HIX.out.mono ?_;rintro r w1 ⟨rfl,rfl⟩;go_wp2_with fail;clear hW3;refine kX 5 kR kR ?_;simp only[aQ,aW,aP,aU];repeat still_step
 refine wpStill_nil ?_;go_wp2_with fail;refine GV.out.mono ?_;intro r w2 hq;have hr:=hq.1;subst hr;go_wp2;go_ret;exact HPOST.out hq
theorem AA (t:Int) (hf:kL t) (hlast:p.last<4611686018427387904) (h:PoX E X F pp p w):
 Calls Tryz.prog 19 #[.pointer (some ⟨pp,0,none⟩),.int .i64 t] w (EPost (jZ E pp).S X F (o8 e p t).1 w (jW ev (o8 e p t).2)):=by
 have hI:=h.2.cancel t;have hR:=h.2.ready t;revert hI hR;unfold o8 mM;by_cases hc:p.cl=true
 ·rw[if_pos hc];intro _ _;exact UW t h hc
 rw[if_neg hc,if_neg hc];have hc':p.cl=false:=by simpa using hc
 by_cases ht:t∈p.W
 ·rw[if_pos ht,if_pos ht];intro hI _;exact UY t h hc' ht hI
 rw[if_neg ht,if_neg ht];cases hg:oC p.G t with
 |none=>intro _ _;exact UZ t h hc' ht hf hg
 |some o=>
  intro _ hI;have hm:o∈p.G.map (·.2):=by
   unfold oC at hg;obtain⟨g,hg1,hg2⟩:=dx.1 hg;exact bJ.2 ⟨g,dH hg1,hg2⟩
  exact V3 t o h hc' ht hf hg hI (h.2.fit o (aj _ (aj _ hm))) (h.2.fetch hg).2 hlast
end
def lJ (mn:Int) (O:List (List Int)) (e:Nat) (v:Int):Nat→De→List Ob→De×List Ob×Nat
 |0,d,R=>(d,R,0)
 |n+1,d,R=>if (takeD mn O e d 0 v true).2.1=0 then lJ mn O e v n (takeD mn O e d 0 v true).1 (R++[(takeD mn O e d 0 v true).2.2])
  else(lH e (takeD mn O e d 0 v true).1 R,[],(takeD mn O e d 0 v true).2.1)
theorem vC {mn:Int} {O:List (List Int)} {e:Nat} {v:Int} {n:Nat} {d:De} {R:List Ob} (h:(takeD mn O e d 0 v true).2.1=0):
 lJ mn O e v (n+1) d R=lJ mn O e v n (takeD mn O e d 0 v true).1 (R++[(takeD mn O e d 0 v true).2.2]):=by rw[lJ,if_pos h]
theorem Ef {mn:Int} {O:List (List Int)} {e:Nat} {v:Int} {n:Nat} {d:De} {R:List Ob} (h:(takeD mn O e d 0 v true).2.1≠0):
 lJ mn O e v (n+1) d R=(lH e (takeD mn O e d 0 v true).1 R,[],(takeD mn O e d 0 v true).2.1):=by rw[lJ,if_neg h]
def sK (d:De) (most:Nat) (R:List Ob):Po:=⟨d,most,R,[],[],[],0,false⟩
section
variable {pd pc pz e:Nat} {mn:Int} {O:List (List Int)} {ev:Nat→Addr} {w0:World} {E:tu pd pc pz e mn O ev w0} {X F:List Nat} {w w':World} {pp:Nat} {p:Po} {d:De}
def PNewPost (E:tu pd pc pz e mn O ev w0) (X F:List Nat) (w:World) (most:Nat) (r:De×List Ob×Nat) (en:Ending) (w':World):Prop:=
 (r.2.2≠0∧EPost E.S X F r.1 w (.tuple #[.pointer none,jW ev r.2.2]) en w')∨
 (r.2.2=0∧∃pp,en= .returned (.tuple #[.pointer (some ⟨pp,0,none⟩),.nilIface])∧w.heap.size≤pp∧mH E X F pp (sK r.1 most r.2.1) w w')
theorem oQ.put {σ:Type} {w0 w W W':World} {E:FEnv σ w0} {X0 F L X Y G:List Nat} {d:σ} (h:oQ E X0 F w L X d W) (k:Keep G W W') (hG: ∀g∈G,g∈L) (hY: ∀y∈Y,W.heap.size≤y∧y<W'.heap.size):oQ E X0 F w (Y++L) (Y++X) d W':=by
 have z:=h.k.size;refine⟨by rw[bS];exact E.tQ h.t k (fun g q=>av _ (hG g q)) hY,h.k.trans k (fun s q=>.inr (h.l s (hG s q)).1),fun x q=> ?_,fun x q=>aj _ (h.x2 x q),fun b q=> ?_⟩
 ·rcases aD.1 q with r|r
  ·have:=(hY x r).1;exact .inr om
  ·exact h.x1 x r
 ·rcases aD.1 q with r|r
  ·have:=hY b r;exact⟨om,this.2⟩
  ·exact⟨(h.l b r).1,aC (h.l b r).2 k.size⟩
structure Eh (E:tu pd pc pz e mn O ev w0) (X F:List Nat) (w:World) (pp bt bg n:Nat) (L X':List Nat) (d:De) (R:List Ob) (vr:Value) (wr:World):Prop where
 run:oQ E.toFEnv X F w L X' d wr
 mem:pp∈L∧bt∈L∧bg∈L∧∀y∈jF vr,y∈L
 c:jD wr pp (jT pd bt bg vr (.slice none 0 0) (sK d n R))
 t:pW Tryz.prog 40 wr bt (D9 [])
 g:pW Tryz.prog 3 wr bg (BJ [])
 row:wr.ownsRow w.heap.size 40 2 vr R.length (kG R)
 ne:pp≠bt∧pp≠bg∧bt≠bg∧pp∉jF vr∧bt∉jF vr∧bg∉jF vr
section
variable {pp bt bg n:Nat} {L X' S:List Nat} {R:List Ob} {vr vr':Value} {wr w4 w5:World} {d':De} {r:Value} {en:Ending}
theorem Eh.keep (h:Eh E X F w pp bt bg n L X' d R vr wr) {L' X2:List Nat} (hf:oQ E.toFEnv X F w L' X2 d' w4) (hL: ∀y∈L,y∈L') (k:Keep S wr w4) (hs: ∀s∈S,s∉L):Eh E X F w pp bt bg n L' X2 d' R vr w4:=
 ⟨hf,⟨hL _ h.mem.1,hL _ h.mem.2.1,hL _ h.mem.2.2.1,fun y q=>hL _ (h.mem.2.2.2 y q)⟩,h.c.keep k (fun q=>hs _ q h.mem.1),h.t.keep k (fun q=>hs _ q h.mem.2.1),h.g.keep k (fun q=>hs _ q h.mem.2.2.1),jE h.row k (fun s q r=>hs s q (h.mem.2.2.2 s r)),h.ne⟩
theorem Eh.go (h:Eh E X F w pp bt bg n L X' d R vr wr) (k:Below wr.heap.size wr w4):Eh E X F w pp bt bg n L X' d R vr w4:=h.keep (h.run.go k) (fun _ q=>q) (Keep.of (S:=[]) k) (fun _ q=>by cases q)
theorem Eh.act (h:Eh E X F w pp bt bg n L X' d R vr wr) (hp:EPost E.S X' (L++F) d' wr r en w4):en= .returned r∧∃X2,Eh E X F w pp bt bg n L X2 d' R vr w4:=by
 obtain⟨h1,X2,h2,h3⟩:=h.run.act hp;exact⟨h1,X2,h.keep h2 (fun _ q=>q) h3 (fun s q r=>(jJ.1 q).2 (av _ r))⟩
theorem Eh.app {m:Nat} {o:Ob} {q:Option Addr} {k:Nat} (h:Eh E X F w pp bt bg n L X' d R vr wr) (hm:m=R.length) (hown:w4.ownsRow w.heap.size 40 2 (.slice q (m+1) k) (m+1) (kG (R++[o]))) (hg:wr.grownBy w4 vr.ownBlock)
 (hz:(Value.slice q (m+1) k).ownBlock=vr.ownBlock∨(Value.slice q (m+1) k).ownBlock=some wr.heap.size) (h5:w5=w4.setCell ⟨pp,2,none⟩ (.slice q (m+1) k)):
 ∃L' X2,Eh E X F w pp bt bg n L' X2 d (R++[o]) (.slice q (m+1) k) w5:=by
 obtain⟨m1,m2,m3,m4,m5,m6⟩:=h.ne;have k4:=jS hg;have k5:Keep [pp] w4 w5:=by rw[h5];exact(Keep.refl _ _).setCell (p:=⟨pp,2,none⟩) (.inl sI) _
 have z4:=k4.size;have z5:=k5.size;have hmem:=h.mem;have lp:=h.run.l _ hmem.1;have lt:=h.run.l _ hmem.2.1;have lg:=h.run.l _ hmem.2.2.1;have K:Keep (pp::jF vr) wr w5:=(k4.mono (fun s r=>ak _ r)).then (k5.mono (fun s r=>by simp at r;subst r;simp));have hown': ∀y∈jF (Value.slice q (m+1) k),y∈jF vr∨y=wr.heap.size:=fun y hy=>by
  rcases hz with e1|e1
  ·left;unfold jF at hy ⊢;rw[e1] at hy;exact hy
  ·right;unfold jF at hy;rw[e1] at hy;simpa using hy
 have hlt: ∀y∈jF (Value.slice q (m+1) k),y<w5.heap.size:=fun y hy=>by
  have:(Value.slice q (m+1) k).ownBlock=some y:=by
   unfold jF at hy;cases e1:(Value.slice q (m+1) k).ownBlock with
   |none=>rw[e1] at hy;simp at hy
   |some b=>rw[e1] at hy;simp at hy;rw[hy]
  have:=(hown.lt y this).2;omega
 have hY: ∀y∈(jF (Value.slice q (m+1) k)).filter (fun y=>decide (wr.heap.size≤y)),wr.heap.size≤y∧y<w5.heap.size:=fun y hy=>by
  obtain⟨q1,q2⟩:=bF.1 hy;exact⟨of_decide_eq_true q2,hlt y q1⟩
 have far: ∀y,y<wr.heap.size→y∉jF vr→y∉jF (Value.slice q (m+1) k):=fun y h1 h2 h3=>by
  rcases hown' y h3 with r|r
  ·exact h2 r
  ·omega
 have kp: ∀y,y≠pp→y∉jF vr→y∉pp::jF vr:=fun y h1 h2 h3=>by
  rcases aB.1 h3 with r|r
  ·exact h1 r
  ·exact h2 r
 refine⟨_,_,h.run.put K (fun g r=> ?_) hY,⟨aj _ hmem.1,aj _ hmem.2.1,aj _ hmem.2.2.1,fun y hy=> ?_⟩,?_,?_,?_,?_,⟨m1,m2,m3,far pp lp.2 m4,far bt lt.2 m5,far bg lg.2 m6⟩⟩
 ·rcases aB.1 r with t|t
  ·rw[t];exact hmem.1
  ·exact hmem.2.2.2 g t
 ·rcases hown' y hy with r|r
  ·exact aj _ (hmem.2.2.2 y r)
  ·exact av _ (bF.2 ⟨hy,decide_eq_true om⟩)
 ·rw[h5]
  exact(h.c.keep k4 m4).store 2 (.slice q (m+1) k) (by simp[jT])
 ·exact h.t.keep K (kp bt m1.symm m5)
 ·exact h.g.keep K (kp bg m2.symm m6)
 ·have:=jE hown k5 (fun s r t=>by simp at r;exact far pp lp.2 m4 (r▸t))
  rw[show(R++[o]).length=m+1 by rw[hm];simp];exact this
end
theorem Eh.fin {pp bt bg n:Nat} {L X':List Nat} {R:List Ob} {vr:Value} {wr:World} (h:Eh E.dr X F w pp bt bg n L X' d R vr wr) (hi:mO e (sK d n R)) (hX: ∀x∈X,x<w.heap.size) (hF: ∀f∈F,f∈X):mH E.dr X F pp (sK d n R) w wr:=by
 obtain⟨m1,m2,m3,m4,m5,m6⟩:=h.ne;obtain⟨l1,l2,l3,l4⟩:=h.mem;have lx: ∀f∈L,f∈X':=fun f q=>E.dr.qR h.run.t f (av _ q)
 have xl: ∀x∈X,x∉L:=fun x q r=>by have:=hX x q;have:=(h.run.l x r).1;omega
 have inY: ∀y,y∈X'→y∉jF vr→y∈X'.filter (fun y=>decide (y∉jF vr)):=fun y a b=>bF.2 ⟨a,decide_eq_true b⟩
 have e0:jF (Value.slice none 0 0)=[]:=rfl;have hp: ∀y∈pws pp bt bg (.slice none 0 0),y∈L∧y∉jF vr:=fun y q=>by
  unfold pws at q;rw[e0] at q;simp at q;rcases q with rfl|rfl|rfl
  ·exact⟨l1,m4⟩
  ·exact⟨l2,m5⟩
  ·exact⟨l3,m6⟩
 refine⟨X'.filter (fun y=>decide (y∉jF vr)),⟨⟨bt,bg,vr,.slice none 0 0,FEnv.drop (E:=E.toFEnv) h.run.t (fun y q=>(bF.1 q).1) (fun x q=> ?_) (fun g q=> ?_),⟨h.c,pO h.row (fun g q r=> ?_),h.t,aT _ _ _ _,h.g,?_,fun y q=> ?_⟩,fun f q r=>xl f (hF f q) (hp f r).1⟩,hi⟩,h.run.k,fun x q=>h.run.x1 x (bF.1 q).1,fun x q=>inY x (h.run.x2 x q) fun r=>xl x q (l4 x r)⟩
 ·by_cases r:x∈jF vr
  ·exact .inr (av _ (l4 x r))
  ·exact .inl (inY x q r)
 ·rcases aD.1 q with r|r
  ·exact⟨av _ (hp g r).1,inY g (lx g (hp g r).1) (hp g r).2⟩
  ·exact⟨aj _ r,inY g (h.run.x2 g (hF g r)) fun t=>xl g (hF g r) (l4 g t)⟩
 ·have:=(bF.1 r).2
  simp[jF,q] at this
 ·unfold pws
  rw[e0];simp;exact⟨⟨m1,m2⟩,m3⟩
 ·have:=E.dr.lim h.run.t y (lx y (hp y q).1)
  exact this
theorem Ei (v:Int) (n:Nat) (h:E.dr.S X F d w) (hn:1≤n∧n≤16) {l:List Ob} (hm:MoI e l d) (hH:0<d.H.length):
 Calls Tryz.prog 9 #[.pointer (some ⟨pd,0,none⟩),.int .i64 v,.int .i64 n] w (PNewPost E.dr X F w n (lJ mn O e v n d [])):=by
 obtain⟨n1,n16⟩:=hn;have d0:decide ((n:Int)<1)=false:=decide_eq_false om;have d1:decide ((16:Int)<(n:Int))=false:=decide_eq_false om;have d2: ¬((n:Int)<1):=om;have d3: ¬((16:Int)<(n:Int)):=om;have hmm:= @run_makeMap Tryz.prog;have hXl:=ah (fun x hx=>(E.dr.lim h x hx).2: ∀x∈X,x<w.heap.size);have hFX:=ah (E.dr.qR h);obtain⟨W3,hW3⟩:=eX (((w.alloc (.map #[] 0)).alloc (.map #[] 0)).alloc (.cells #[.pointer (some ⟨pd,0,none⟩),.int .i64 n,.slice none 0 0,.map (some w.heap.size),.slice none 0 0,.map (some (w.heap.size+1)),.int .i64 0,.bool false] 120));have START:Eh E.dr X F w (w.heap.size+2) w.heap.size (w.heap.size+1) n [w.heap.size+2,w.heap.size+1,w.heap.size] ((w.heap.size+2)::(w.heap.size+1)::w.heap.size::X) d [] (.slice none 0 0) W3:=by
  subst hW3;have r1:=(oQ.start h).box (.map #[] 0);have r2:=r1.box (.map #[] 0);have r3:=r2.box (.cells #[.pointer (some ⟨pd,0,none⟩),.int .i64 n,.slice none 0 0,.map (some w.heap.size),.slice none 0 0,.map (some (w.heap.size+1)),.int .i64 0,.bool false] 120);have z1:(w.alloc (.map #[] 0)).heap.size=w.heap.size+1:=sI;have z2:((w.alloc (.map #[] 0)).alloc (.map #[] 0)).heap.size=w.heap.size+2:=sI;rw[z1,z2] at r3;have M1:pW Tryz.prog 40 (w.alloc (.map #[] 0)) w.heap.size (D9 []):=pW.made _ _ _;have M2:pW Tryz.prog 3 ((w.alloc (.map #[] 0)).alloc (.map #[] 0)) (w.alloc (.map #[] 0)).heap.size (BJ []):=pW.made _ _ _;rw[z1] at M2;refine⟨r3,⟨sI,sI,sI,fun y q=>by cases q⟩,jD.mk_ _ _ _ z2,(M1.below jK).below jK,M2.below jK,aT _ _ _ _,?_⟩;refine⟨om,om,om,by simp[jF,Value.ownBlock],by simp[jF,Value.ownBlock],by simp[jF,Value.ownBlock]⟩
 have HS:=ah START;have hI:=E.dr.inv h;have HI0:Hid (oH e d∧lJ mn O e v n d []=lJ mn O e v (n-0) d []∧([]:List Ob).length=0∧([]:List Ob).Nodup∧(∀o∈([]:List Ob),pE o)∧0<d.H.length∧∃l,MoI e l d∧∀x∈([]:List Ob),x∈l):=⟨hI,rfl,rfl,eF,fun o q=>(by cases q),hH,l,hm,fun x q=>(by cases q)⟩;obtain⟨bt,hbt⟩:=eX w.heap.size;clear START hI hm hH h hbt;go_enter Tryz.func9,Tryz.ntmps9;go_wp2_with fail;clear hmm hW3 d0 d1 d2 d3;go_loopw [30] (fun iv wr=>∃(i:Nat) (L X':List Nat) (d':De) (R:List Ob) (q:Option Addr) (k:Nat),i≤n∧iv= .int .i64 i∧Hid (Eh E.dr X F w (w.heap.size+2) w.heap.size (w.heap.size+1) n L X' d' R (.slice q i k) wr)∧
  Hid (oH e d'∧lJ mn O e v n d []=lJ mn O e v (n-i) d' R∧R.length=i∧R.Nodup∧(∀o∈R,pE o)∧0<d'.H.length∧∃l,MoI e l d'∧∀x∈R,x∈l)) (fun iv _=>n-(intOf iv).toNat)
 case atStart=>exact⟨0,_,_,_,_,_,_,bq _,by go_num,HS,HI0⟩
 case round=>
  obtain⟨i,L,X',d',R,q,k,hin,rfl,HP,HI⟩:=hrel;by_cases hlt:i<n
  ·have hli:(i:Int)<(n:Int):=by omega
   have hl0:(0:Int)≤(i:Int):=om;obtain⟨dn,c,o,ht⟩: ∃dn c o,takeD mn O e d' 0 v true=(dn,c,o):=⟨_,_,_,rfl⟩;have TK0:=E.dr.take 0 v true HP.out.run.t;rw[ht] at TK0;have TK:=ah (show Calls Tryz.prog 23 #[.pointer (some ⟨pd,0,none⟩),.int .i64 0,.int .i64 v,.bool true] wr (EPost E.dr.S X' (L++F) dn wr (.tuple #[.agg #[.int .i64 o.1,.int .i64 o.2],jW ev c])) from TK0);have HT:=ah ht;have hO:=ah (E.dr.ord HP.out.run.t);clear TK0 ht;go_wp2_with fail;refine TK.out.mono ?_;intro r w1 hp;obtain⟨hr,X2,hP1⟩:=HP.out.act hp;subst hr;have hb1:Below w1.heap.size w1 (w1.alloc (bO o)):=by unfold bO;exact jK
   have hPb:=hP1.go hb1;have LB:jD (w1.alloc (bO o)) w1.heap.size [.int .i64 o.1,.int .i64 o.2]:=jD.mk_ w1 [.int .i64 o.1,.int .i64 o.2] 40 rfl;obtain⟨Wb,hWb⟩:=eX (w1.alloc (bO o));obtain⟨b9,hb9⟩:=eX w1.heap.size;rw[hWb] at hPb LB;rw[hb9] at LB;have x0:=LB.gC 0;have x1:=LB.gC 1;have xl:=LB.lt;have x2:=hPb.c.gC 2;have xf:=hPb.c.f 2 (by simp[jT]);have xL:=hPb.c.lt;have HPB:=ah hPb;have HLB:=ah LB;have hpp:=(hP1.run.l _ hP1.mem.1).2;have hn9: ∀y∈jF (Value.slice q i k),y<w1.heap.size:=fun y hy=>(hP1.run.l y (hP1.mem.2.2.2 y hy)).2
   rw[hb9] at hn9;have HN9:=ah hn9;have HW1:=ah hP1.run.k.size;clear hp hP1 TK hPb LB hb1 hn9;by_cases h0:c=0
   ·subst h0
    have e0:jW ev 0= .nilIface:=rfl;rw[e0];clear e0;unfold bO at hWb;have hm0:=HI.out;have i16:i≤70000:=om;have NE: ¬(w.heap.size+2=b9):=om;have NE': ¬(b9=w.heap.size+2):=fun r=>NE r.symm
    go_wp2_with fail;clear hWb hb9;refine jN (S:=(fun w'=>w'.cell? ⟨w.heap.size+2,2,none⟩=some (.slice q i k)∧w'.cell? ⟨b9,0,none⟩=some (.int .i64 o.1)∧w'.cell? ⟨b9,1,none⟩=some (.int .i64 o.2))) 8 #[false,false,false,false,false,false,false,false] rfl kR kR (by(try dsimp only);go_keep) (fun hHeld=> ?_);simp only[aQ,aW];refine tk 0 ?_;try simp only[Act.put,pA,pZ,pS]
    refine tk 1 ?_;try simp only[Act.put,pA,pZ,pS]
    refine tk 2 ?_;try simp only[Act.put,pA,pZ,pS]
    refine tk 3 ?_;try simp only[Act.put,pA,pZ,pS]
    refine tk 4 ?_;try simp only[Act.put,pA,pZ,pS]
    refine tk 5 ?_;try simp only[Act.put,pA,pZ,pS]
    refine wpAnyH_ready (rs:=[6]) kR sI ?_;refine aR (jH rfl) (fun K hK=> ?_) aX;go_simp
    refine hK.out _ _ (by(try dsimp only);go_keep) (fun hHeld=> ?_);clear hK K;try simp only[Act.put,pA,pZ,pS]
    refine wpAnyH_ready (rs:=[7]) kR sI ?_;refine aR (jH rfl) (fun K hK=> ?_) aX;obtain⟨i1,i2,i3,i4,i5,i6,l,i7,i8⟩:=HI.out;have hD:=HPB.out.go (show Below Wb.heap.size Wb (Wb.alloc (.cells #[.int .i64 o.1,.int .i64 o.2] 40)).drew from jK);have hrow:=hD.row;rw[i3] at hrow;refine oh rY (base:=w.heap.size) (ms:=[.int .i64 o.1,.int .i64 o.2]) rf (.tmp 58) (.tmp 60) rf rf rf hrow rfl (fun j u hj=>nJ Wb _ _ _ j u hj) (nK _ _) i16 (by have:=hD.run.k.size;exact this) ?_;intro q4 k4 w4 jV hg4 hz4;have c4:=hD.c.keep (jS hg4) hD.ne.2.2.2.1;have u2:=c4.gC 2;have uf:=c4.f 2 (by simp[jT]);have ul:=c4.lt;have n9:b9∉jF (Value.slice q i k):=fun r=>by have:=HN9.out b9 r;omega
    have L9:=(HLB.out.go (show Below Wb.heap.size Wb (Wb.alloc (.cells #[.int .i64 o.1,.int .i64 o.2] 40)).drew from jK)).keep (jS hg4) n9;have y0:=L9.gC 0;have y1:=L9.gC 1;have HD:=ah hD;have HG4:=ah hg4;have HZ4:=ah hz4;have HO4:Hid (w4.ownsRow w.heap.size 40 2 (.slice q4 (i+1) k4) (i+1) (kG (R++[o]))):=by rw[l8];exact jV
    have i8': ∀x∈R,x∈oM e d'.c.C:=fun x hx=>(i7.iff x).2 (.inl (i8 x hx))
    rcases MoI.take hO.out i1 i7 0 v true with⟨j1,j2,j3⟩|⟨j1,_⟩;rotate_left
    ·rw[HT.out] at j1;exact absurd rfl j1
    have ti:=qI (mn:=mn) (O:=O) (k:=0) (v:=v) (u:=true) hO.out i1;have th:(takeD mn O e d' 0 v true).1.H.length=d'.H.length:=su;have INV:Hid (oH e dn∧lJ mn O e v n d []=lJ mn O e v (n-(i+1)) dn (R++[o])∧(R++[o]).length=i+1∧(R++[o]).Nodup∧(∀x∈R++[o],pE x)∧0<dn.H.length∧∃l,MoI e l dn∧∀x∈R++[o],x∈l):=by
     have e1:n-i=(n-(i+1))+1:=om;rw[e1,vC j1] at i2;rw[HT.out] at i2 ti j2 j3 th;have hoR:o∉R:=fun q=>j2 (i8 o q)
     have hs: ∀x∈R++[o],x∈l++[o]:=fun x hx=>by
      rcases aD.1 hx with q|q
      ·exact av _ (i8 x q)
      ·exact aj _ q
     refine⟨ti,i2,by simp[i3],?_,fun x hx=>IG ti.c ((j3.iff x).2 (.inl (hs x hx))),by rw[th];exact i6,l++[o],j3,hs⟩;rw[bD];exact⟨i4,sI,fun a ha b hb=>by simp at hb;subst hb;exact fun q=>hoR (q▸ha)⟩
    have I3:=ah i3;clear jV hg4 hz4 hD c4 L9 n9 i1 i2 i3 i4 i5 i6 i7 i8 i8' j1 j2 j3 ti th hrow hm0;refine hK.out _ _ (by(try dsimp only);go_keep) (fun hHeld=> ?_);clear hK K;try simp only[Act.put,pA,pZ,pS]
    refine wpAnyH_done kR ?_ _;simp only[nX,aP,aU];clear hHeld x0 x1 x2 xf xL xl;go_wp2;go_roundw;case rel=>
     obtain⟨L2,X3,hP5⟩:=HD.out.app I3.out.symm HO4.out HG4.out HZ4.out rfl;exact⟨i+1,L2,X3,dn,R++[o],q4,k4,om,by go_num,hP5,INV⟩
    case measure=>simp[intOf];omega
   ·obtain⟨c',rfl⟩: ∃c',c=c'+1:=⟨c-1,om⟩
    have e0:jW ev (c'+1)= .iface 336 (.pointer (some (ev (c'+1)))):=rfl;rw[e0];unfold bO at hWb;have NE: ¬(w.heap.size+2=b9):=om;have NE': ¬(b9=w.heap.size+2):=fun r=>NE r.symm
    obtain⟨i1,i2,i3,i4,i5,i6,l,i7,i8⟩:=HI.out;have I5:=ah i5;have I3:=ah i3;have FILL:Hid (lJ mn O e v n d []=(lH e dn R,[],c'+1)):=by
     have e1:n-i=(n-(i+1))+1:=om;rw[e1,Ef (by rw[HT.out];exact Nat.succ_ne_zero _)] at i2;rw[HT.out] at i2;exact i2
    have V4:Hid (Eh E.dr X F w (w.heap.size+2) w.heap.size (w.heap.size+1) n L X2 (lH e dn (R.take 0)) R (.slice q i k) Wb):=HPB.out;have ALL:Hid (R.take i=R):=by show _=_;rw[←I3.out];simp
    clear i1 i2 i3 i4 i5 i6 i7 i8 e0 x0 x1 xl;go_wp2_with fail;clear hWb hb9 x2 xf xL;go_loopw [45] (fun jv ws=>∃(j:Nat) (X3:List Nat),j≤i∧jv= .int .i64 j∧Hid (Eh E.dr X F w (w.heap.size+2) w.heap.size (w.heap.size+1) n L X3 (lH e dn (R.take j)) R (.slice q i k) ws)) (fun jv _=>i-(intOf jv).toNat);case atStart=>exact⟨0,X2,bq _,by go_num,V4⟩
    case round=>
     obtain⟨j,X3,hji,rfl,HQ⟩:=hrel;by_cases hjt:j<i
     ·obtain⟨a,ha⟩: ∃a,R[j]?=some a:=⟨R[j]'(by rw[I3.out];exact hjt),aA _⟩
      have ro:=pO (X:=[]) HQ.out.row (fun g _ r=>by cases r);obtain⟨g,off',eg,_,gl,y0,y1⟩:=ro.at ha;subst eg;have fo:pE a:=I5.out a (aF ha);have GV:Hid (∀W,Below wr.heap.size wr W→Calls Tryz.prog 50 #[.pointer (some ⟨pd,0,none⟩),.int .i64 0,.agg #[.int .i64 a.1,.int .i64 a.2]] W fun r w'=>(∃v,r= .returned v)∧∃X4,Eh E.dr X F w (w.heap.size+2) w.heap.size (w.heap.size+1) n L X4 (lH e dn (R.take (j+1))) R (.slice (some ⟨g,off',none⟩) i k) w'):=fun W hW=>by
       have tw:=HQ.out.go hW;refine(E.dr.give 0 a tw.run.t (by have:=fo.2;unfold kL at this;omega) (by have:=fo.2;unfold kL at this;omega)).mono fun r w' hp=> ?_
       obtain⟨hr,X4,h4⟩:=tw.act hp;exact⟨⟨_,hr⟩,X4,by rw[sS ha];exact h4⟩
      have hji':(j:Int)<(i:Int):=om;have hj0:(0:Int)≤(j:Int):=om;clear ha fo HQ ro;go_wp2_with fail;refine(GV.out _ jK).mono ?_;rintro r w5 ⟨⟨v5,rfl⟩,X5,p5⟩;have HP5:=ah p5;clear p5 GV y0 y1;go_wp2;go_roundw;case rel=>exact⟨j+1,X5,om,by go_num,HP5⟩
      case measure=>simp[intOf];omega
     ·obtain rfl:j=i:=by omega
      have HQ':=HQ.out;rw[ALL.out] at HQ';have HQ2:=ah HQ';clear HQ' HQ;go_wp2;go_ret2
      rw[FILL.out];exact .inl ⟨Nat.succ_ne_zero _,HQ2.out.run.fin⟩
  ·obtain rfl:i=n:=by omega
   go_wp2;go_ret2
   obtain⟨i1,i2,i3,i4,i5,i6,l,i7,i8⟩:=HI.out;have e0:i-i=0:=om;rw[e0] at i2;rw[i2];refine .inr ⟨rfl,w.heap.size+2,rfl,om,HP.out.fin ?_ hXl.out hFX.out⟩;exact⟨i1,⟨l,i7,fun x hx=>i8 x (by simpa[Po.obs,sK] using hx)⟩,by simpa[Po.obs,sK] using i4,⟨n1,n16⟩,by show R.length≤i;omega,by simp[sK],List.Pairwise.nil,fun t q=>(by cases q),eF,fun g q=>(by cases q),fun g q=>(by cases q),cO _⟩
end
theorem okN_free {k:Int} {x:Nd} (h:Inv x.n x.F x.T) (k0:0≤k):okN 0 k false x=okN 0 k true x:=by
 unfold okN mayN;cases hb:mq k x.F with
 |none=>simp
 |some b=>
  have h1:=h.Dv k0 hb;have h2:=nZ (sJ k b x.F);have:decide ((0:Int)≤nI x.F-sz k)=true:=decide_eq_true om;rw[this];simp
theorem Rk {O:List (List Int)} {L:List Nd} (hL: ∀x∈L,Inv x.n x.F x.T) (v k:Int):kU 0 O L v k false=kU 0 O L v k true:=by
 unfold kU;split
 ·rfl
 ·rename_i hv
  have:uS 0 k false L=uS 0 k true L:=by
   funext D
   unfold uS;congr 1
   funext j
   unfold Bp;split
   ·rename_i x hx;exact okN_free (hL x (aF hx)) om
   ·rfl
  rw[this]
theorem Rl {O:List (List Int)} {e:Nat} {c:Ca} (h:tq e c) (v:Int):takeC 0 O e c v false=takeC 0 O e c v true:=by
 unfold takeC;rw[Rk h.zi]
theorem yg {O:List (List Int)} {e:Nat} {d:De} (h:oH e d) (k v:Int):takeD 0 O e d k v false=takeD 0 O e d k v true:=by
 unfold takeD;rw[Rl h.c]
structure Dc (p e n:Nat) (d:De):Prop where
 inv:oH e d
 full:pV p e n d.c
 hands:d.H=[([],[])]
 pile:d.P=[]
section
variable {p e n m:Nat} {d:De} {l R:List Ob} {q:Po} {o:Ob}
structure Rm (p e r:Nat) (out:List Ob) (q:Po):Prop where
 d:Dc p e (q.R.length+q.T.length) q.d
 t:q.T=out
 r:q.R.length≤r∧(q.R.length=r∨q.R.length+q.T.length=p*jR e)
 w:q.W=[]
 g:q.G=[]
 la:q.last=0
 cl:q.cl=false
def upTo (a n:Nat):List Int:=(List.range n).map fun i=>((a+i+1:Nat):Int)
structure BM (p e:Nat) (out:List Ob) (s k:Nat) (q:Po):Prop where
 d:Dc p e (p*jR e) q.d
 t: ∀x∈out,x∈q.T
 r:q.R=[]
 w:q.W=upTo s k
 g:q.G=[]
 la:q.last=((s+k:Nat):Int)
 cl:q.cl=false
end
theorem Rn {B:Nat} {ev:Nat→Addr} (i:Nat) (n:Int) (w:World) (hE:pY B ev w) (i2:i≤10):
 Calls Tryz.prog 11 #[jW ev i,.int .i64 n] w fun e w'=>e= .returned (.bool (decide ((i:Int)=n)))∧Below w.heap.size w w':=by
 obtain⟨m,hm⟩: ∃m:Int,m=(i:Int):=⟨_,rfl⟩;have cc:=code_any i w hE i2;rw[←hm] at cc;have CC:=ah cc;clear cc;rw[←hm];clear hm;generalize jW ev i=x at CC;by_cases h:m=n
 ·rw[decide_eq_true h]
  have hd:(m==n)=true:=by simpa using h
  clear h;go_enter Tryz.func11,Tryz.ntmps11;go_wp2_with fail;refine CC.out.mono ?_;rintro e w1 ⟨rfl,hb1⟩;obtain⟨c1,f1⟩:=xW hb1;have z1:=hb1.size;try simp at z1 c1 f1
  go_wp2;go_ret;exact⟨rfl,jK⟩
 ·rw[decide_eq_false h]
  have hd:(m==n)=false:=by simpa using h
  clear h;go_enter Tryz.func11,Tryz.ntmps11;go_wp2_with fail;refine CC.out.mono ?_;rintro e w1 ⟨rfl,hb1⟩;obtain⟨c1,f1⟩:=xW hb1;have z1:=hb1.size;try simp at z1 c1 f1
  go_wp2;go_ret;exact⟨rfl,jK⟩
theorem AB {B:Nat} {ev:Nat→Addr} (i:Nat) (n:Int) (w:World) (hE:pY B ev w) (i2:i≤10) (h:(i:Int)=n):
 Calls Tryz.prog 11 #[jW ev i,.int .i64 n] w fun e w'=>e= .returned (.bool true)∧Below w.heap.size w w':=by
 have:=Rn i n w hE i2;rwa [decide_eq_true h] at this
end Go.Proofs.YtehhldljdakgeaaGreatDoor
