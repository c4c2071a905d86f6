/- Lemmas and contracts for the claim's last text: PGive, PReady. -/
import Derived.Test.YtehhldljdakgeaaGreatDoorQa01
import Derived.Test.YtehhldljdakgeaaGreatDoorQa31
set_option linter.unusedSimpArgs false
set_option linter.unusedVariables false
set_option maxHeartbeats 16000000
set_option maxRecDepth 100000
namespace Go.Proofs.YtehhldljdakgeaaGreatDoor
open Go.RowKit Go.Maps
attribute [local go_sem ↓] aJ aK
theorem UR (w:World):(zeroValue 4).run Tryz.prog w= .ok (.bool false) w:=kR
theorem zeroObjV (w:World):(zeroValue 40).run Tryz.prog w= .ok (.agg #[.int .i64 0,.int .i64 0]) w:=kR
theorem pW.isT {w:World} {bt:Nat} {T:List Ob} {o:Ob} (h:pW Tryz.prog 40 w bt (D9 T)) (hT: ∀x∈T,pE x) (ho:pE o):
 (Instr.lookup 117 (.map (some bt)) (.agg #[.int .i64 o.1,.int .i64 o.2]) false).run Tryz.prog w= .ok (.bool (decide (o∈T))) w:=by
 rw[h.look1 Ow ig (UR w) (keyO ho),Ox hT ho];by_cases q:o∈T<;>simp[q]
theorem pW.delT {w:World} {bt:Nat} {T:List Ob} {o:Ob} (h:pW Tryz.prog 40 w bt (D9 T)) (hn:T.Nodup) (hT: ∀x∈T,pE x) (ho:pE o) (ty:TypeId):
 ∃w',(Builtin.delete_ #[117,40] ty #[.map (some bt),.agg #[.int .i64 o.1,.int .i64 o.2]]).run Tryz.prog w= .ok (.tuple #[]) w'∧pW Tryz.prog 40 w' bt (D9 (T.erase o))∧w.mapTurned w' bt:=by
 obtain⟨w',h1,h2,h3⟩:=h.drop Ow ig (keyO ho) ty;rw[del_set hn hT ho] at h2;exact⟨w',h1,h2,h3⟩
theorem pW.insG {w:World} {bg:Nat} {G:List (Int×Ob)} {t:Int} {o:Ob} (h:pW Tryz.prog 3 w bg (BJ G)) (ht:kL t) (hn: ∀g∈G,g.1≠t) (hl:G.length≤65536):
 ∃w',(Instr.mapUpdate 118 (.map (some bg)) (.int .i64 t) (.agg #[.int .i64 o.1,.int .i64 o.2])).run Tryz.prog w= .ok () w'∧pW Tryz.prog 3 w' bg (BJ (G++[(t,o)]))∧w.mapTurned w' bg:=by
 obtain⟨w',h1,h2,h3⟩:=h.put uO iq (by unfold BJ maxLen;simp;omega) (val:=.agg #[.int .i64 o.1,.int .i64 o.2]) (keyOf_int_mk bE (wf64 ht));have e1:oq (BJ G) (.int .i64 t)=none:=by
  rw[Oy,fZ.2]
  ·rfl
  ·intro g hg;simpa using hn g hg
 rw[Av e1] at h2;refine⟨w',h1,h2.perm ?_,h3⟩;unfold BJ;simp only[dI,bP,dW];exact(jk (l₁:=[(Lit.int .i64 t,Value.agg #[.int .i64 o.1,.int .i64 o.2])]) (l₂:=G.map fun g=>(Lit.int .i64 g.1,Value.agg #[.int .i64 g.2.1,.int .i64 g.2.2])))
section
variable {pd pc pz e:Nat} {mn:Int} {O:List (List Int)} {ev:Nat→Addr} {w0:World} {E:tu pd pc pz e mn O ev w0} {X F:List Nat} {w:World} {pp:Nat} {p:Po}
def bO (o:Ob):Obj:=.cells #[.int .i64 o.1,.int .i64 o.2] 40
theorem pgive_A (k:Int) (o:Ob) (h:PoX E X F pp p w) (hc:p.cl=true):
 Calls Tryz.prog 15 #[.pointer (some ⟨pp,0,none⟩),.int .i64 k,.agg #[.int .i64 o.1,.int .i64 o.2]] w (EPost (jZ E pp).S X F p w (jW ev 4)):=by
 have e4:jW ev 4= .iface 336 (.pointer (some (ev 4))):=rfl;rw[e4];have FIN:Hid (∀W,Below w.heap.size w W→EPost (jZ E pp).S X F p w (.iface 336 (.pointer (some (ev 4)))) (.returned (.iface 336 (.pointer (some (ev 4))))) W):=fun W b=>⟨rfl,mH.same h b⟩
 have b1:Below w.heap.size w (w.alloc (bO o)):=by unfold bO;exact jK
 have HE:=h.err.go b1;obtain⟨⟨bt,bg,vr,vw,q⟩,hi⟩:=h.go b1;have c7:=q.b.c.gC 7;have cl:=q.b.c.lt;rw[hc] at c7;have gs:(w.alloc (bO o)).cell? ⟨2,0,none⟩=some (.iface 336 (.pointer (some (ev 4)))):=(HE.at 4 (by decide) (by decide)).1;have gl:2<(w.alloc (bO o)).heap.size:=(HE.at 4 (by decide) (by decide)).2;obtain⟨W1,hW1⟩:=eX (w.alloc (bO o));rw[hW1] at c7 cl gs gl b1;have HB:=ah b1;clear q hi h HE hc b1 e4;go_enter iL,iC;unfold bO at hW1;go_wp2;go_ret;exact FIN.out _ HB.out
theorem pgive_B (k:Int) (o:Ob) (h:PoX E X F pp p w) (hc:p.cl=false) (hw:lU p k=false):
 Calls Tryz.prog 15 #[.pointer (some ⟨pp,0,none⟩),.int .i64 k,.agg #[.int .i64 o.1,.int .i64 o.2]] w (EPost (jZ E pp).S X F p w (jW ev 2)):=by
 have e2:jW ev 2= .iface 336 (.pointer (some (ev 2))):=rfl;rw[e2];have FIN:Hid (∀W,Below w.heap.size w W→EPost (jZ E pp).S X F p w (.iface 336 (.pointer (some (ev 2)))) (.returned (.iface 336 (.pointer (some (ev 2))))) W):=fun W b=>⟨rfl,mH.same h b⟩
 have b1:Below w.heap.size w (w.alloc (bO o)):=by unfold bO;exact jK
 have HE:=h.err.go b1;obtain⟨⟨bt,bg,vr,vw,q⟩,hi⟩:=h.go b1;have c7:=q.b.c.gC 7;have c0:=q.b.c.gC 0;have cl:=q.b.c.lt;have WK:=ah (E.work q.s);rw[hc] at c7;have gs:(w.alloc (bO o)).cell? ⟨1,0,none⟩=some (.iface 336 (.pointer (some (ev 2)))):=(HE.at 2 (by decide) (by decide)).1;have gl:1<(w.alloc (bO o)).heap.size:=(HE.at 2 (by decide) (by decide)).2;unfold lU at hw;obtain⟨n,hn⟩:=eY p.d.H.length;rw[←hn] at WK hw;have hw':=of_decide_eq_false hw;have hd:(k<0∧decide (k<0)=true)∨(¬k<0∧decide (k<0)=false∧decide ((n:Int)≤k)=true):=by
  by_cases h0:k<0
  ·exact .inl ⟨h0,decide_eq_true h0⟩
  ·exact .inr ⟨h0,decide_eq_false h0,decide_eq_true om⟩
 obtain⟨W1,hW1⟩:=eX (w.alloc (bO o));rw[hW1] at c7 c0 cl gs gl b1 WK;have HB:=ah b1;clear q hi h HE hc b1 e2 hn hw hw';rcases hd with⟨h0,d0⟩|⟨h0,d0,d1⟩
 ·go_enter iL,iC
  unfold bO at hW1;go_wp2;go_ret;exact FIN.out _ HB.out
 ·go_enter iL,iC
  unfold bO at hW1;go_wp2_with fail;refine WK.out.mono ?_;rintro r w1 ⟨rfl,rfl⟩;clear hW1;go_wp2;go_ret;exact FIN.out _ HB.out
theorem pgive_C (k:Int) (o:Ob) (h:PoX E X F pp p w) (hc:p.cl=false) (hw:lU p k=true) (ho:pE o) (hT:o∉p.T):
 Calls Tryz.prog 15 #[.pointer (some ⟨pp,0,none⟩),.int .i64 k,.agg #[.int .i64 o.1,.int .i64 o.2]] w (EPost (jZ E pp).S X F p w (jW ev 9)):=by
 have e9:jW ev 9= .iface 336 (.pointer (some (ev 9))):=rfl;rw[e9];have FIN:Hid (∀W,Below w.heap.size w W→EPost (jZ E pp).S X F p w (.iface 336 (.pointer (some (ev 9)))) (.returned (.iface 336 (.pointer (some (ev 9))))) W):=fun W b=>⟨rfl,mH.same h b⟩
 have b1:Below w.heap.size w (w.alloc (bO o)):=by unfold bO;exact jK
 have HE:=h.err.go b1;obtain⟨⟨bt,bg,vr,vw,q⟩,hi⟩:=h.go b1;have c7:=q.b.c.gC 7;have c0:=q.b.c.gC 0;have c3:=q.b.c.gC 3;have cl:=q.b.c.lt;have WK:=ah (E.work q.s);rw[hc] at c7;have gs:(w.alloc (bO o)).cell? ⟨5,0,none⟩=some (.iface 336 (.pointer (some (ev 9)))):=(HE.at 9 (by decide) (by decide)).1;have gl:5<(w.alloc (bO o)).heap.size:=(HE.at 9 (by decide) (by decide)).2;unfold lU at hw;obtain⟨n,hn⟩:=eY p.d.H.length;rw[←hn] at WK hw;have hw':=of_decide_eq_true hw;have d0:decide (k<0)=false:=decide_eq_false om;have d1:decide ((n:Int)≤k)=false:=decide_eq_false om;have LB:=jD.mk_ w [.int .i64 o.1,.int .i64 o.2] 40 rfl;have m0:=LB.gC 0;have m1:=LB.gC 1;have ml:=LB.lt;have lk:=fun m=>(q.b.t.below (w':=(w.alloc (bO o)).drewN m) (below_drewN (aO _ _) _)).isT hi.GZ ho
 rw[decide_eq_false hT] at lk;obtain⟨W1,hW1⟩:=eX (w.alloc (bO o));have hW2:=hW1;unfold bO at hW2;rw[hW1] at c7 c0 c3 cl gs gl b1 WK lk;rw[hW2] at m0 m1 ml;have HB:=ah b1;clear q hi h HE hc b1 e9 hn hw hw' ho hT LB hW1;go_enter iL,iC;go_wp2_with fail;refine WK.out.mono ?_;rintro r w1 ⟨rfl,rfl⟩;clear hW2;go_wp2;go_quiet (fail);go_wp2;go_ret;exact FIN.out _ (HB.out.trans jK)
theorem pgive_D1 (k:Int) (o:Ob) (h:PoX E X F pp p w) (hc:p.cl=false) (hw:lU p k=true) (ho:pE o) (hT:o∈p.T) {t:Int} {W':List Int} (hW:p.W=t::W') (hP:mO e ⟨p.d,p.most,p.R,p.T.erase o,W',p.G++[(t,o)],p.last,p.cl⟩) (hlast:p.last<4611686018427387904):
 Calls Tryz.prog 15 #[.pointer (some ⟨pp,0,none⟩),.int .i64 k,.agg #[.int .i64 o.1,.int .i64 o.2]] w (EPost (jZ E pp).S X F ⟨p.d,p.most,p.R,p.T.erase o,W',p.G++[(t,o)],p.last,p.cl⟩ w .nilIface):=by
 have b1:Below w.heap.size w (w.alloc (bO o)):=by unfold bO;exact jK
 have H1:=ah (h.go b1);obtain⟨⟨bt,bg,vr,vw,q⟩,hi⟩:=h.go b1;have c7:=q.b.c.gC 7;have c0:=q.b.c.gC 0;have c3:=q.b.c.gC 3;have cl:=q.b.c.lt;have WK:=ah (E.work q.s);rw[hc] at c7;unfold lU at hw;obtain⟨n,hn⟩:=eY p.d.H.length;rw[←hn] at WK hw;have hw':=of_decide_eq_true hw;have d0:decide (k<0)=false:=decide_eq_false om;have d1:decide ((n:Int)≤k)=false:=decide_eq_false om;have LB:=jD.mk_ w [.int .i64 o.1,.int .i64 o.2] 40 rfl;have m0:=LB.gC 0;have m1:=LB.gC 1;have ml:=LB.lt;have lk:=fun m=>(q.b.t.below (w':=(w.alloc (bO o)).drewN m) (below_drewN (aO _ _) _)).isT hi.GZ ho
 rw[decide_eq_true hT] at lk;obtain⟨W1,hW1⟩:=eX (w.alloc (bO o));have hW2:=hW1;unfold bO at hW2;rw[hW1] at c7 c0 c3 cl b1 WK lk q H1;rw[hW2] at m0 m1 ml LB;have HB:=ah b1;have HLB:=ah LB;have HQ:=ah q;have HO:=ah ho;have HT:=ah hT;have HI:=ah hi;have nbx:w.heap.size∉pws pp bt bg vw:=fun r=>by
  have:=(h.lim _ (E.qR q.s _ (av _ r))).2;omega
 have HNB:=ah nbx;clear q hi h hc b1 hn hw hw' ho hT LB hW1 nbx;go_enter iL,iC;go_wp2_with fail;refine WK.out.mono ?_;rintro r w1 ⟨rfl,rfl⟩;clear hW2;go_wp2_with fail;go_quiet (fail);rename_i nq;obtain⟨w2,hw2⟩:=eX (w1.drewN nq);have hb2:Below w1.heap.size w1 w2:=by rw[←hw2];exact below_drewN (aO _ _) _
 try rw[hw2]
 clear hw2;have q2:=HQ.out.go hb2;have L2:=HLB.out.go hb2;have HB2:=ah (HB.out.trans (hb2.mono HB.out.size));clear c7 c0 c3 cl m0 m1 ml lk hb2;have c3:=q2.b.c.gC 3;have cl:=q2.b.c.lt;have m0:=L2.gC 0;have m1:=L2.gC 1;have ml:=L2.lt;have dl:=fun ty=>(q2.b.t.keep (Keep.refl [] w2).drew sI).delT HI.out.ndT HI.out.GZ HO.out ty
 obtain⟨w3,UU,M3,T3⟩:=dl 0;have K3:Keep [bt] w2 w3:=(Keep.refl [bt] w2).drew.then (lM T3 (.inl sI));obtain⟨m_1,m_2,m_3,m_4,m_5,m_6⟩:=q2.b.ne;have L3:=L2.keep K3 (by simp;exact fun r=>HNB.out (r▸mP));have C3:=q2.b.c.keep K3 (by simpa using m_1);have O3:=jE q2.b.ow K3 (fun s hs=>by simp at hs;subst hs;exact m_5);have G3:=q2.b.g.keep K3 (by simp;exact fun r=>m_3 r.symm);rw[hW] at O3;obtain⟨gw,kw,rfl⟩: ∃gw kw,vw= .slice (some ⟨gw,0,none⟩) p.W.length kw:=by
  rcases q2.b.ow.2 with⟨_,e2⟩|⟨g,cap,cur,e,_⟩
  ·rw[hW] at e2;simp at e2
  ·exact⟨_,_,e⟩
 obtain⟨N,hN⟩:=eY W'.length;have HN:=ah hN;have pl:p.W.length=N+1:=by rw[hW,hN];simp
 rw[pl] at O3;rw[show(t::W').length=N+1 by rw[hN];simp] at O3;have c4:=C3.gC 4;have c5:=C3.gC 5;have cl3:=C3.lt;have f4:=C3.f 4 (by simp[jT]);rw[pl] at c4;have t0:=O3.cellAt 0 om;simp only[ints,bP,List.getElem?_cons_zero] at t0;have gwl:=(O3.lt gw rfl).2;have n0:=L3.gC 0;have n1:=L3.gC 1;have nl:=L3.lt;have ft:kL t:=by
  have:=HI.out.wl t (by rw[hW];exact aG ..);unfold kL;omega
 obtain⟨w4,hrun4,M4,T4⟩:=(G3.keep (Keep.refl [] w3).drew sI).insG (o:=o) ft (fun g hg r=>HI.out.wg g hg (by rw[r,hW];exact aG ..)) HI.out.H7.2;have d9:decide ((0:Int)<((N+1:Nat):Int))=true:=decide_eq_true om;have d9':decide (0<N+1)=true:=decide_eq_true om;have N1:(0:Int)<(N:Int)+1:=om;have K4:Keep [bg] w3 w4:=(Keep.refl [bg] w3).drew.then (lM T4 (.inl sI));have HC3:=ah C3;have C4:=C3.keep K4 (by simpa using m_2);have O4:=jE O3 K4 (fun s hs=>by simp at hs;subst hs;exact m_6);have y4:=C4.gC 4;have yl:=C4.lt;have yf:=C4.f 4 (by simp[jT]);rw[pl] at y4;have eL:(t::W').length=N+1:=by rw[hN];simp
 have CL0:=Ay (.slice (some ⟨gw,0,none⟩) (N+1) kw) (t::W') w4 (by rw[eL];exact O4) (by rw[eL,←pl];have:=HI.out.w;omega);rw[eL] at CL0;have CL:=ah CL0;have DL:Hid (∀W B g kk,W.ownsRow B 3 1 (.slice (some ⟨g,0,none⟩) (N+1) kk) (N+1) (ints (t::W'))→Calls Tryz.prog 65 #[.slice (some ⟨g,0,none⟩) (N+1) kk,.int .i64 0,.int .i64 1] W fun r w'=>r= .returned (.slice (some ⟨g,0,none⟩) N kk)∧w'.ownsRow B 3 1 (.slice (some ⟨g,0,none⟩) N kk) N (ints W')∧Keep [g] W w'):=fun W B g kk ho=>by
  obtain⟨rest,r1,r2,r3,r4,r5,r6⟩:=yX ho;have:=UN (B:=B) g kk 0 (ints (t::W')) rest W r1 r2 r5 r6 (by rw[r3];omega) (rC _) (by rw[r3,←pl];have:=HI.out.w;omega);rw[r3] at this;refine(show Calls Tryz.prog 65 #[.slice (some ⟨g,0,none⟩) (N+1) kk,.int .i64 0,.int .i64 1] W (zq B g kk 0 (ints (t::W')) W) from this).mono fun r w' ⟨a,b,c⟩=> ?_
  rw[r3] at a b;exact⟨a,b,c⟩
 have HM4:=ah M4;have HM3:=ah M3;have HK3:=ah K3;have HK4:=ah K4;have HQ2:=ah q2;have HC4:=ah C4;have HO4:=ah O4;have HPL:=ah pl;have FINP:=ah hP;clear dl T3 T4 M3 M4 K3 K4 C3 C4 O3 O4 G3 q2 L2 L3 CL0 eL hP hW hN pl ft;go_wp2_with fail;refine kX 5 kR kR ?_;simp only[aQ,aW,aP,aU];repeat still_step
 refine wpStill_nil ?_;go_wp2_with fail;refine kX 11 kR kR ?_;simp only[aQ,aW,aP,aU];repeat still_step
 refine wpStill_nil ?_;go_wp2_with fail;refine CL.out.mono ?_;rintro r w5 ⟨q5,k5,rfl,O5,hb5⟩;obtain⟨g5,rfl⟩: ∃g5,q5=some ⟨g5,0,none⟩:=by
  rcases O5.2 with⟨_,e2⟩|⟨g,cap,cur,e,_⟩
  ·omega
  ·exact⟨g,(eH e).1⟩
 have C5:=HC4.out.go hb5;have y4':=C5.gC 4;have yl':=C5.lt;have yf':=C5.f 4 (by simp[jT]);have g5l:=O5.lt g5 rfl;have HC5:=ah C5;have HB5:=ah hb5;clear y4 yl yf C5 hb5 UU hrun4;go_wp2_with fail;refine(DL.out w5 _ g5 k5 O5).mono ?_;rintro r w6 ⟨rfl,O6,K6⟩;have pg:pp≠g5:=fun r=>by have:=HC4.out.lt;omega
 have C6:=HC5.out.keep K6 (by simpa using pg);have z4:=C6.gC 4;have zl:=C6.lt;have zf:=C6.f 4 (by simp[jT]);have HC6:=ah C6;have HK6:=ah K6;have HO6:=ah O6;clear y4' yl' yf' C6 K6 O6;go_wp2;go_ret;refine⟨rfl,mH.ahead HB2.out ?_⟩;obtain⟨w7,hw7⟩:=eY (w6.setCell ⟨pp,4,none⟩ (.slice (some ⟨g5,0,none⟩) N k5));rw[←hw7];have K7:Keep [pp] w6 w7:=by rw[hw7];exact(Keep.refl _ _).setCell (p:=⟨pp,4,none⟩) (.inl sI) _
 have z2:=HK3.out.size;have z3:=HK4.out.size;have z5:=HB5.out.size;have z6:=HK6.out.size;have z7:=K7.size;have g5n: ∀s∈[g5],s∈pws pp bt bg (.slice (some ⟨gw,0,none⟩) p.W.length kw)∨w2.heap.size≤s:=fun s r=>by simp at r;subst r;exact .inr om
 have KA:Keep (pws pp bt bg (.slice (some ⟨gw,0,none⟩) p.W.length kw)) w2 w7:=
  ((((HK3.out.mono (fun s r=>by simp at r;subst r;exact mP)).then (HK4.out.mono (fun s r=>by simp at r;subst r;exact rz))).step HB5.out).trans HK6.out g5n).then (K7.mono (fun s r=>by simp at r;subst r;exact mG))
 have far: ∀y,y<w4.heap.size→y∉[g5]:=fun y hy r=>by simp at r;omega
 have lt2:=fun y hy=>(HQ2.out.b.lim y hy).2
 have lpp:=lt2 pp mG;have lbt:=lt2 bt mP;have lbg:=lt2 bg rz;refine HQ2.out.putW (vw':=.slice (some ⟨g5,0,none⟩) N k5) (p':=⟨p.d,p.most,p.R,p.T.erase o,W',p.G++[(t,o)],p.last,p.cl⟩) KA (fun y hy=> ?_) ?_ ?_ ?_ ?_ rfl rfl FINP.out
 ·have:y=g5:=by simpa[jF,Value.ownBlock,eq_comm] using hy
  subst this;exact .inr ⟨om,by have:=(HO6.out.lt y rfl).2;omega⟩
 ·rw[hw7]
  exact HC6.out.store 4 (.slice (some ⟨g5,0,none⟩) N k5) (by simp[jT])
 ·exact(((HM3.out.keep HK4.out (by simpa using m_3)).below HB5.out).keep HK6.out (far bt om)).keep K7 (by simp;exact fun r=>m_1 r.symm)
 ·have:=jE HO6.out K7 (fun s r t'=>by
   simp at r;subst r;have:s=g5:=by simpa[jF,Value.ownBlock,eq_comm] using t'
   exact pg this)
  rw[HN.out] at this;rw[HN.out];exact rA this (by have:=(E.bel HQ2.out.s).size;omega)
 ·exact((HM4.out.below HB5.out).keep HK6.out (far bg om)).keep K7 (by simp;exact fun r=>m_2 r.symm)
theorem pgive_D3 (k:Int) (o:Ob) (h:PoX E X F pp p w) (hc:p.cl=false) (hw:lU p k=true) (ho:pE o) (hT:o∈p.T) (hW:p.W=[]) (hR: ¬p.R.length<p.most) (hP:mO e ⟨(kK e p.d k o).1,p.most,p.R,p.T.erase o,[],p.G,p.last,p.cl⟩) (hP1:mO e ⟨p.d,p.most,p.R,p.T.erase o,[],p.G,p.last,p.cl⟩):
 Calls Tryz.prog 15 #[.pointer (some ⟨pp,0,none⟩),.int .i64 k,.agg #[.int .i64 o.1,.int .i64 o.2]] w (EPost (jZ E pp).S X F ⟨(kK e p.d k o).1,p.most,p.R,p.T.erase o,[],p.G,p.last,p.cl⟩ w (jW ev (kK e p.d k o).2)):=by
 obtain⟨⟨d',cc⟩,hd⟩: ∃r,r=kK e p.d k o:=⟨_,rfl⟩;rw[←hd] at hP ⊢;have HD:=ah hd;have HP:=ah hP;have HP1:=ah hP1;clear hd hP hP1;simp only;have b1:Below w.heap.size w (w.alloc (bO o)):=by unfold bO;exact jK
 have H1:=ah (h.go b1);obtain⟨⟨bt,bg,vr,vw,q⟩,hi⟩:=h.go b1;have c7:=q.b.c.gC 7;have c0:=q.b.c.gC 0;have c3:=q.b.c.gC 3;have cl:=q.b.c.lt;have WK:=ah (E.work q.s);rw[hc] at c7;unfold lU at hw;obtain⟨n,hn⟩:=eY p.d.H.length;rw[←hn] at WK hw;have hw':=of_decide_eq_true hw;have d0:decide (k<0)=false:=decide_eq_false om;have d1:decide ((n:Int)≤k)=false:=decide_eq_false om;have LB:=jD.mk_ w [.int .i64 o.1,.int .i64 o.2] 40 rfl;have m0:=LB.gC 0;have m1:=LB.gC 1;have ml:=LB.lt;have lk:=fun m=>(q.b.t.below (w':=(w.alloc (bO o)).drewN m) (below_drewN (aO _ _) _)).isT hi.GZ ho
 rw[decide_eq_true hT] at lk;obtain⟨W1,hW1⟩:=eX (w.alloc (bO o));have hW2:=hW1;unfold bO at hW2;rw[hW1] at c7 c0 c3 cl b1 WK lk q H1;rw[hW2] at m0 m1 ml LB;have HB:=ah b1;have HLB:=ah LB;have HQ:=ah q;have HO:=ah ho;have HT:=ah hT;have HI:=ah hi;have nbx:w.heap.size∉pws pp bt bg vw:=fun r=>by
  have:=(h.lim _ (E.qR q.s _ (av _ r))).2;omega
 have HNB:=ah nbx;clear q hi h hc b1 hn hw hw' ho hT LB hW1 nbx;go_enter iL,iC;go_wp2_with fail;refine WK.out.mono ?_;rintro r w1 ⟨rfl,rfl⟩;clear hW2;go_wp2_with fail;go_quiet (fail);rename_i nq;obtain⟨w2,hw2⟩:=eX (w1.drewN nq);have hb2:Below w1.heap.size w1 w2:=by rw[←hw2];exact below_drewN (aO _ _) _
 try rw[hw2]
 clear hw2;have q2:=HQ.out.go hb2;have L2:=HLB.out.go hb2;have HB2:=ah (HB.out.trans (hb2.mono HB.out.size));clear c7 c0 c3 cl m0 m1 ml lk hb2;have c3:=q2.b.c.gC 3;have cl:=q2.b.c.lt;have m0:=L2.gC 0;have m1:=L2.gC 1;have ml:=L2.lt;have dl:=fun ty=>(q2.b.t.keep (Keep.refl [] w2).drew sI).delT HI.out.ndT HI.out.GZ HO.out ty
 obtain⟨w3,UU,M3,T3⟩:=dl 0;have K3:Keep [bt] w2 w3:=(Keep.refl [bt] w2).drew.then (lM T3 (.inl sI));obtain⟨m_1,m_2,m_3,m_4,m_5,m_6⟩:=q2.b.ne;have L3:=L2.keep K3 (by simp;exact fun r=>HNB.out (r▸mP));have C3:=q2.b.c.keep K3 (by simpa using m_1);have G3:=q2.b.g.keep K3 (by simp;exact fun r=>m_3 r.symm);have R3:=q2.b.r.keep K3 (fun s r=>by simp at r;subst r;exact .inl (q2.inX _ mP));obtain⟨qw,kw,rfl⟩:=kI q2.b.ow;obtain⟨qr,kr,rfl,hcr,hkr⟩:=q2.b.r.isSlice;have c4:=C3.gC 4;have c2:=C3.gC 2;have c1':=C3.gC 1;have cl3:=C3.lt;have f2:=C3.f 2 (by simp[jT]);rw[hW] at c4;rw[show([]:List Int).length=0 from rfl] at c4;have n0:=L3.gC 0;have n1:=L3.gC 1;have nl:=L3.lt;obtain⟨N,hN⟩:=eY p.R.length;have EN:=ah hN;have N16:N≤16:=by have h1:=HI.out.r;have h2:=HI.out.m1.2;omega
 rw[←hN] at c2;obtain⟨M,hM⟩:=eY p.most;have EM:=ah hM;rw[←hM] at c1';rw[←hN,←hM] at hR;have d9:decide ((N:Int)<(M:Int))=false:=decide_eq_false om;have d9':decide (N<M)=false:=decide_eq_false om;have c0:=C3.gC 0;have M1:Hid (mH E X F pp ⟨p.d,p.most,p.R,p.T.erase o,[],p.G,p.last,p.cl⟩ w2 w3):=
  q2.putR (p':=⟨p.d,p.most,p.R,p.T.erase o,[],p.G,p.last,p.cl⟩) (K3.mono (fun s r=>by simp at r;subst r;simp)) C3 M3 G3 R3 hW.symm rfl HP1.out
 have HL3:=ah L3;clear dl T3 M3 K3 C3 G3 R3 q2 L2 L3 hW hN hM hR hcr hkr;go_wp2_with fail;refine kX 5 kR kR ?_;simp only[aQ,aW,aP,aU];repeat still_step
 refine wpStill_nil ?_;go_wp2_with fail;clear UU c3 cl m0 m1 ml;refine jL kR kR ?_;repeat(go_big_quiet_step (fail))
 refine wpQuiet_nil ?_;intro w4 hw';have hb4:=kS hw';clear hw';have z4:=hb4.size;try simp at z4
 have y0:=(hb4.cell (p:=⟨pp,0,none⟩) cl3).trans c0;have yl:=aC cl3 hb4.size;have L4:=HL3.out.go hb4;have z0:=L4.gC 0;have z1:=L4.gC 1;have zl:=L4.lt;have HB4:=ah (hb4.trans (show Below w3.heap.size w4 w4.drew from by have:=hb4.size;exact(aO _ _).drew));have M4:=M1.out.behind HB4.out;obtain⟨X4,x1,x2,x3,x4⟩:=id M4;have HM4:=ah M4;have GV:Hid (Calls Tryz.prog 50 #[.pointer (some ⟨pd,0,none⟩),.int .i64 k,.agg #[.int .i64 o.1,.int .i64 o.2]] w4.drew (fun r w'=>r= .returned (jW ev cc)∧mH E X F pp ⟨d',p.most,p.R,p.T.erase o,[],p.G,p.last,p.cl⟩ w2 w')):=by
  obtain⟨Z,s1,s2⟩:=x1.BK (d:=d') HP.out;have:=E.give k o s1 HO.out.2.1 HO.out.2.2;rw[show(⟨p.d,p.most,p.R,p.T.erase o,[],p.G,p.last,p.cl⟩:Po).d=p.d from rfl,←HD.out] at this;refine this.mono fun r w' hp=> ?_
  obtain⟨h1,hm⟩:=s2 hp;refine⟨h1,?_⟩;obtain⟨X5,k1,k2,k3,k4⟩:=hm;have z:=x2.size;refine⟨X5,k1,Gh x3 x2 k2,fun x q=> ?_,fun x q=>k4 x (x4 x q)⟩;rcases k3 x q with t|t
  ·exact x3 x t
  ·exact .inr om
 clear L4 hb4 c0 c1' c2 c4 cl3 n0 n1 nl f2 M4 x1 x2 x3 x4;go_wp2_with fail;refine kX 6 kR kR ?_;simp only[aQ,aW,aP,aU];repeat still_step
 refine wpStill_nil ?_;go_wp2_with fail;refine GV.out.mono ?_;rintro r w5 ⟨rfl,hm⟩;have HM:=ah hm;clear hm;go_wp2;go_ret;exact⟨rfl,mH.ahead HB2.out HM.out⟩
theorem pgive_D2 (k:Int) (o:Ob) (h:PoX E X F pp p w) (hc:p.cl=false) (hw:lU p k=true) (ho:pE o) (hT:o∈p.T) (hW:p.W=[]) (hR:p.R.length<p.most) (hP:mO e ⟨p.d,p.most,p.R++[o],p.T.erase o,[],p.G,p.last,p.cl⟩):
 Calls Tryz.prog 15 #[.pointer (some ⟨pp,0,none⟩),.int .i64 k,.agg #[.int .i64 o.1,.int .i64 o.2]] w (EPost (jZ E pp).S X F ⟨p.d,p.most,p.R++[o],p.T.erase o,[],p.G,p.last,p.cl⟩ w .nilIface):=by
 have HP:=ah hP;clear hP;have b1:Below w.heap.size w (w.alloc (bO o)):=by unfold bO;exact jK
 have H1:=ah (h.go b1);obtain⟨⟨bt,bg,vr,vw,q⟩,hi⟩:=h.go b1;have c7:=q.b.c.gC 7;have c0:=q.b.c.gC 0;have c3:=q.b.c.gC 3;have cl:=q.b.c.lt;have WK:=ah (E.work q.s);rw[hc] at c7;unfold lU at hw;obtain⟨n,hn⟩:=eY p.d.H.length;rw[←hn] at WK hw;have hw':=of_decide_eq_true hw;have d0:decide (k<0)=false:=decide_eq_false om;have d1:decide ((n:Int)≤k)=false:=decide_eq_false om;have LB:=jD.mk_ w [.int .i64 o.1,.int .i64 o.2] 40 rfl;have m0:=LB.gC 0;have m1:=LB.gC 1;have ml:=LB.lt;have lk:=fun m=>(q.b.t.below (w':=(w.alloc (bO o)).drewN m) (below_drewN (aO _ _) _)).isT hi.GZ ho
 rw[decide_eq_true hT] at lk;obtain⟨W1,hW1⟩:=eX (w.alloc (bO o));have hW2:=hW1;unfold bO at hW2;rw[hW1] at c7 c0 c3 cl b1 WK lk q H1;rw[hW2] at m0 m1 ml LB;have HB:=ah b1;have HLB:=ah LB;have HQ:=ah q;have HO:=ah ho;have HT:=ah hT;have HI:=ah hi;have nbx:w.heap.size∉pws pp bt bg vw:=fun r=>by
  have:=(h.lim _ (E.qR q.s _ (av _ r))).2;omega
 have HNB:=ah nbx;clear q hi h hc b1 hn hw hw' ho hT LB hW1 nbx;go_enter iL,iC;go_wp2_with fail;refine WK.out.mono ?_;rintro r w1 ⟨rfl,rfl⟩;clear hW2;go_wp2_with fail;go_quiet (fail);rename_i nq;obtain⟨w2,hw2⟩:=eX (w1.drewN nq);have hb2:Below w1.heap.size w1 w2:=by rw[←hw2];exact below_drewN (aO _ _) _
 try rw[hw2]
 clear hw2;have q2:=HQ.out.go hb2;have L2:=HLB.out.go hb2;have HB2:=ah (HB.out.trans (hb2.mono HB.out.size));clear c7 c0 c3 cl m0 m1 ml lk hb2;have c3:=q2.b.c.gC 3;have cl:=q2.b.c.lt;have m0:=L2.gC 0;have m1:=L2.gC 1;have ml:=L2.lt;have dl:=fun ty=>(q2.b.t.keep (Keep.refl [] w2).drew sI).delT HI.out.ndT HI.out.GZ HO.out ty
 obtain⟨w3,UU,M3,T3⟩:=dl 0;have K3:Keep [bt] w2 w3:=(Keep.refl [bt] w2).drew.then (lM T3 (.inl sI));obtain⟨m_1,m_2,m_3,m_4,m_5,m_6⟩:=q2.b.ne;have L3:=L2.keep K3 (by simp;exact fun r=>HNB.out (r▸mP));have C3:=q2.b.c.keep K3 (by simpa using m_1);have G3:=q2.b.g.keep K3 (by simp;exact fun r=>m_3 r.symm);have R3:=q2.b.r.keep K3 (fun s r=>by simp at r;subst r;exact .inl (q2.inX _ mP));obtain⟨qw,kw,rfl⟩:=kI q2.b.ow;obtain⟨qr,kr,rfl,hcr,hkr⟩:=q2.b.r.isSlice;have c4:=C3.gC 4;have c2:=C3.gC 2;have c1':=C3.gC 1;have cl3:=C3.lt;have f2:=C3.f 2 (by simp[jT]);rw[hW] at c4;rw[show([]:List Int).length=0 from rfl] at c4;have n0:=L3.gC 0;have n1:=L3.gC 1;have nl:=L3.lt;obtain⟨N,hN⟩:=eY p.R.length;have EN:=ah hN;have N16:N≤16:=by have h1:=HI.out.r;have h2:=HI.out.m1.2;omega
 rw[←hN] at c2;obtain⟨M,hM⟩:=eY p.most;have EM:=ah hM;rw[←hM] at c1';rw[←hN,←hM] at hR;have d9:decide ((N:Int)<(M:Int))=true:=decide_eq_true om;have d9':decide (N<M)=true:=decide_eq_true hR;have R3':lG X w3 (.slice qr N kr) p.R:=by rw[hN];exact R3
 obtain⟨rc,e0,nc,qn⟩:=lG.clip R3';clear e0;have hNM:N<M:=hR;have HRC:=ah rc;have CL:Hid (∀W,Calls Tryz.prog 67 #[.slice qr N kr] W fun e w'=>e= .returned (.slice qr N N)∧w'=W):=fun W=>zh qr N kr W qn nc
 have HL3:=ah L3;have HC3:=ah C3;have HM3:=ah M3;have HG3:=ah G3;have HK3:=ah K3;have HQ2:=ah q2;have HW:=ah hW;clear dl T3 M3 K3 C3 G3 R3 R3' rc q2 L2 L3 hW hN hM hR hcr hkr;go_wp2_with fail;refine kX 5 kR kR ?_;simp only[aQ,aW,aP,aU];repeat still_step
 refine wpStill_nil ?_;go_wp2_with fail;clear UU c3 cl m0 m1 ml;refine jL kR kR ?_;repeat(go_big_quiet_step (fail))
 refine wpQuiet_nil ?_;intro w4 hw';have hb4:=kS hw';clear hw';have z4:=hb4.size;try simp at z4
 have y2:=(hb4.cell (p:=⟨pp,2,none⟩) cl3).trans c2;have yf:=(hb4.frozen (p:=⟨pp,2,none⟩) cl3).trans f2;have yl:=aC cl3 hb4.size;have L4:=HL3.out.go hb4;have z0:=L4.gC 0;have z1:=L4.gC 1;have zl:=L4.lt;have HB4:=ah hb4;have HL4:=ah L4;have npx: ¬(pp=w.heap.size):=fun r=>HNB.out (r▸mG)
 have npx': ¬(w.heap.size=pp):=fun r=>npx r.symm
 have NB0:Hid ((w4.alloc (.cells #[.int .i64 o.1,.int .i64 o.2] 40)).drew.cell? ⟨w4.heap.size,0+0,none⟩=some (.int .i64 o.1)):=(jD.mk_ w4 [.int .i64 o.1,.int .i64 o.2] 40 rfl).lT.gC 0;have NB1:Hid ((w4.alloc (.cells #[.int .i64 o.1,.int .i64 o.2] 40)).drew.cell? ⟨w4.heap.size,0+1,none⟩=some (.int .i64 o.2)):=(jD.mk_ w4 [.int .i64 o.1,.int .i64 o.2] 40 rfl).lT.gC 1;have FIN:Hid (∀w5 g' k',Below w4.heap.size w4 w5→w5.ownsRow ((w4.alloc (.cells #[.int .i64 o.1,.int .i64 o.2] 40)).drew).heap.size 40 2 (.slice (some ⟨g',0,none⟩) (N+1) k') (N+1) (kG (p.R++[o]))→
  EPost (jZ E pp).S X F ⟨p.d,p.most,p.R++[o],p.T.erase o,[],p.G,p.last,p.cl⟩ w .nilIface (.returned .nilIface) (w5.setCell ⟨pp,2,none⟩ (.slice (some ⟨g',0,none⟩) (N+1) k'))):=fun w5 g' k' hb hown=>by
  refine⟨rfl,mH.ahead HB2.out ?_⟩;obtain⟨w6,hw6⟩:=eY (w5.setCell ⟨pp,2,none⟩ (.slice (some ⟨g',0,none⟩) (N+1) k'));rw[←hw6];have K6:Keep [pp] w5 w6:=by rw[hw6];exact(Keep.refl _ _).setCell (p:=⟨pp,2,none⟩) (.inl sI) _
  have z2:=HK3.out.size;have z4:=HB4.out.size;have z5:=hb.size;have KA:Keep [pp,bt,bg] w2 w6:=(((HK3.out.mono (fun s r=>by simp at r;subst r;simp)).step HB4.out).step hb).then (K6.mono (fun s r=>by simp at r;subst r;simp));have hg:=hown.lt g' rfl;have hs:((w4.alloc (.cells #[.int .i64 o.1,.int .i64 o.2] 40)).drew).heap.size=w4.heap.size+1:=sI;rw[hs] at hg;have hgX:g'∉X:=fun q=>by have:=(E.lim HQ2.out.s g' q).2;omega
  have en:N+1=(p.R++[o]).length:=by rw[EN.out];simp
  have ro:lG X w5 (.slice (some ⟨g',0,none⟩) (N+1) k') (p.R++[o]):=by
   rw[en] at hown ⊢;exact pO hown (fun g q=>by
    have:g=g':=by simpa[Value.ownBlock,eq_comm] using q
    subst this;exact hgX)
  have hc6:=(((HC3.out.go HB4.out).go hb).store 2 (.slice (some ⟨g',0,none⟩) (N+1) k') (by simp[jT]));rw[←hw6] at hc6;exact HQ2.out.putR (vr':=.slice (some ⟨g',0,none⟩) (N+1) k') (p':=⟨p.d,p.most,p.R++[o],p.T.erase o,[],p.G,p.last,p.cl⟩) KA hc6
   (((HM3.out.below HB4.out).below hb).keep K6 (by simp;exact fun r=>m_1 r.symm)) (((HG3.out.below HB4.out).below hb).keep K6 (by simp;exact fun r=>m_2 r.symm))
   (ro.keep K6 (fun s r=>by simp at r;subst r;exact .inl (HQ2.out.inX _ mG))) HW.out.symm rfl HP.out
 clear L4 hb4 c1' c2 c4 cl3 n0 n1 nl f2;go_wp2_with fail;refine jN (S:=(fun w'=>w'.cell? ⟨pp,2,none⟩=some (.slice qr N kr)∧w'.cell? ⟨w.heap.size,0,none⟩=some (.int .i64 o.1)∧w'.cell? ⟨w.heap.size,1,none⟩=some (.int .i64 o.2))) 9 #[false,false,false,false,false,false,false,false,false] rfl kR kR (by(try dsimp only);go_keep) (fun hHeld=> ?_);simp only[aQ,aW];refine tk 0 ?_;try simp only[Act.put,pA,pZ,pS]
 refine tk 1 ?_;try simp only[Act.put,pA,pZ,pS]
 refine tk 2 ?_;try simp only[Act.put,pA,pZ,pS]
 refine tk 3 ?_;try simp only[Act.put,pA,pZ,pS]
 refine tk 4 ?_;try simp only[Act.put,pA,pZ,pS]
 refine tk 6 ?_;try simp only[Act.put,pA,pZ,pS]
 refine wpAnyH_ready (rs:=[5,7]) kR sI ?_;refine aR (jH rfl) (fun K hK=> ?_) (aR (jH rfl) (fun K hK=> ?_) aX)
 ·refine qJ rf 67 #[.slice qr N kr] kR (.slice qr N N) _ (CL.out _) ?_
  refine hK.out _ _ (by(try dsimp only);go_keep) (fun hHeld=> ?_);clear hK K;try simp only[Act.put,pA,pZ,pS]
  refine wpAnyH_ready (rs:=[7]) kR sI ?_;refine aR (jH rfl) (fun K hK=> ?_) aX;go_simp
  refine hK.out _ _ (by(try dsimp only);go_keep) (fun hHeld=> ?_);clear hK K;try simp only[Act.put,pA,pZ,pS]
  refine wpAnyH_ready (rs:=[8]) kR sI ?_;refine aR (jH rfl) (fun K hK=> ?_) aX;refine qK (X:=X) (w:=(w4.alloc (.cells #[.int .i64 o.1,.int .i64 o.2] 40)).drew) EN.out rf (.tmp 87) (.tmp 89) rf rf rf ((HRC.out.below HB4.out).below jK) om (ob:=o) (ad:=⟨w4.heap.size,0,none⟩) (by rw[addr_add];exact NB0.out) (by rw[addr_add];exact NB1.out) ?_;intro g' k' w5 hown5 hb5;have B5:Below w4.heap.size w4 w5:=(show Below w4.heap.size w4 ((w4.alloc (.cells #[.int .i64 o.1,.int .i64 o.2] 40)).drew) from jK).trans (hb5.mono sI);have u2:=(B5.cell (p:=⟨pp,2,none⟩) yl).trans y2;have u0:=(B5.cell (p:=⟨w.heap.size,0,none⟩) zl).trans z0;have u1:=(B5.cell (p:=⟨w.heap.size,1,none⟩) zl).trans z1;have uf:=(B5.frozen (p:=⟨pp,2,none⟩) yl).trans yf;have ul:pp<w5.heap.size:=aC yl B5.size;refine hK.out _ _ (by(try dsimp only);go_keep) (fun hHeld=> ?_);clear hK K;try simp only[Act.put,pA,pZ,pS]
  refine wpAnyH_done kR ?_ _;simp only[nX,aP,aU];have HO5:=ah hown5;have HB5:=ah B5;clear hown5 hb5 B5 hHeld;go_wp2;go_ret;exact FIN.out w5 g' k' HB5.out HO5.out
 ·go_simp
  refine hK.out _ _ (by(try dsimp only);go_keep) (fun hHeld=> ?_);clear hK K;try simp only[Act.put,pA,pZ,pS]
  refine wpAnyH_ready (rs:=[5]) kR sI ?_;refine aR (jH rfl) (fun K hK=> ?_) aX;refine qJ rf 67 #[.slice qr N kr] kR (.slice qr N N) _ (CL.out _) ?_;refine hK.out _ _ (by(try dsimp only);go_keep) (fun hHeld=> ?_);clear hK K;try simp only[Act.put,pA,pZ,pS]
  refine wpAnyH_ready (rs:=[8]) kR sI ?_;refine aR (jH rfl) (fun K hK=> ?_) aX;refine qK (X:=X) (w:=(w4.alloc (.cells #[.int .i64 o.1,.int .i64 o.2] 40)).drew) EN.out rf (.tmp 87) (.tmp 89) rf rf rf ((HRC.out.below HB4.out).below jK) om (ob:=o) (ad:=⟨w4.heap.size,0,none⟩) (by rw[addr_add];exact NB0.out) (by rw[addr_add];exact NB1.out) ?_;intro g' k' w5 hown5 hb5;have B5:Below w4.heap.size w4 w5:=(show Below w4.heap.size w4 ((w4.alloc (.cells #[.int .i64 o.1,.int .i64 o.2] 40)).drew) from jK).trans (hb5.mono sI);have u2:=(B5.cell (p:=⟨pp,2,none⟩) yl).trans y2;have u0:=(B5.cell (p:=⟨w.heap.size,0,none⟩) zl).trans z0;have u1:=(B5.cell (p:=⟨w.heap.size,1,none⟩) zl).trans z1;have uf:=(B5.frozen (p:=⟨pp,2,none⟩) yl).trans yf;have ul:pp<w5.heap.size:=aC yl B5.size;refine hK.out _ _ (by(try dsimp only);go_keep) (fun hHeld=> ?_);clear hK K;try simp only[Act.put,pA,pZ,pS]
  refine wpAnyH_done kR ?_ _;simp only[nX,aP,aU];have HO5:=ah hown5;have HB5:=ah B5;clear hown5 hb5 B5 hHeld;go_wp2;go_ret;exact FIN.out w5 g' k' HB5.out HO5.out
theorem Az (k:Int) (o:Ob) (ho:pE o) (hlast:p.last<4611686018427387904) (h:PoX E X F pp p w):
 Calls Tryz.prog 15 #[.pointer (some ⟨pp,0,none⟩),.int .i64 k,.agg #[.int .i64 o.1,.int .i64 o.2]] w (EPost (jZ E pp).S X F (mg e p k o).1 w (jW ev (mg e p k o).2)):=by
 have hI:=h.2.give k o;revert hI;unfold mg;by_cases hc:p.cl=true
 ·rw[if_pos hc];intro _;exact pgive_A k o h hc
 rw[if_neg hc];have hc':p.cl=false:=by simpa using hc
 by_cases hw:lU p k=false
 ·rw[if_pos hw];intro _;exact pgive_B k o h hc' hw
 rw[if_neg hw];have hw':lU p k=true:=by simpa using hw
 by_cases hT:o∈p.T
 ·rw[if_pos hT]
  unfold Ee;split
  ·rename_i t W' hW
   intro hI;exact pgive_D1 k o h hc' hw' ho hT hW hI hlast
  ·rename_i hW
   split
   ·rename_i hR
    intro hI;exact pgive_D2 k o h hc' hw' ho hT hW hR hI
   ·rename_i hR
    intro hI;refine pgive_D3 k o h hc' hw' ho hT hW hR hI ?_;have pe:=Gg hT;obtain⟨l,hm,hs⟩:=h.2.mo;exact⟨h.2.inv,⟨l,hm,fun x hx=>hs x (pe.mem_iff.2 (ak _ hx))⟩,(aS.1 (pe.nodup_iff.1 h.2.nd)).2,h.2.m1,h.2.r,sI,List.Pairwise.nil,fun s q=>(by cases q),h.2.gn,h.2.gl,fun g hg q=>(by cases q),h.2.l0⟩
 ·rw[if_neg hT];intro _;exact pgive_C k o h hc' hw' ho hT
end
section
variable {pd pc pz e:Nat} {mn:Int} {O:List (List Int)} {ev:Nat→Addr} {w0:World} {E:tu pd pc pz e mn O ev w0} {X F:List Nat} {w:World} {pp:Nat} {p:Po}
theorem PoB.rowW {X:List Nat} {B:Nat} {w:World} {pp pd bt bg:Nat} {vr vw:Value} {p:Po} (h:PoB X B w pp pd bt bg vr vw p):nC [] w vw (ints p.W):=oL (by rw[Oz];exact h.ow) (fun x hx=>by cases hx)
theorem pW.lookG {w:World} {bg:Nat} {G:List (Int×Ob)} {t:Int} (h:pW Tryz.prog 3 w bg (BJ G)) (ht:kL t):
 (Instr.lookup 118 (.map (some bg)) (.int .i64 t) true).run Tryz.prog w= .ok (.tuple #[.agg #[.int .i64 ((oC G t).getD (0,0)).1,.int .i64 ((oC G t).getD (0,0)).2],.bool (oC G t).isSome]) w:=by
 rw[h.look uO iq (zeroObjV w) (keyOf_int_mk bE (wf64 ht)),Oy];unfold oC;cases(G.find? fun g=>g.1==t).map (·.2)<;>rfl
theorem pW.delG_ {w:World} {bg:Nat} {G:List (Int×Ob)} {t:Int} (h:pW Tryz.prog 3 w bg (BJ G)) (ht:kL t) (ty:TypeId):
 ∃w',(Builtin.delete_ #[118,3] ty #[.map (some bg),.int .i64 t]).run Tryz.prog w= .ok (.tuple #[]) w'∧pW Tryz.prog 3 w' bg (BJ (GX G t))∧w.mapTurned w' bg:=by
 obtain⟨w',h1,h2,h3⟩:=h.drop uO iq (keyOf_int_mk bE (wf64 ht)) ty;rw[del_map] at h2;exact⟨w',h1,h2,h3⟩
end
end Go.Proofs.YtehhldljdakgeaaGreatDoor
