/- Lemmas. -/
import Derived.Test.YtehhldljdakgeaaGreatDoorQb01
import Derived.Test.YtehhldljdakgeaaGreatDoorQb22
set_option linter.unusedSimpArgs false
set_option linter.unusedVariables false
set_option maxHeartbeats 16000000
set_option maxRecDepth 100000
namespace Go.Proofs.YtehhldljdakgeaaGreatDoor
open Go.RowKit Go.Maps Go.Proofs.Tryz
attribute [local go_sem ↓] aJ aK
theorem WC (w:World):(zeroValue 4).run prog w= .ok (.bool false) w:=kR
theorem zeroObjV (w:World):(zeroValue 40).run prog w= .ok (.agg #[.int .i64 0,.int .i64 0]) w:=kR
theorem qO.isT {w:World} {bt:Nat} {T:List Ob} {o:Ob} (h:qO prog 40 w bt (EF T)) (hT: ∀x∈T,qJ x) (ho:qJ o):
 (Instr.lookup 117 (.map (some bt)) (.agg #[.int .i64 o.1,.int .i64 o.2]) false).run prog w= .ok (.bool (decide (o∈T))) w:=by
 rw[h.look1 Qs iH (WC w) (keyO ho),Qt hT ho];by_cases q:o∈T<;>simp[q]
theorem qO.delT {w:World} {bt:Nat} {T:List Ob} {o:Ob} (h:qO prog 40 w bt (EF T)) (hn:T.Nodup) (hT: ∀x∈T,qJ x) (ho:qJ o) (ty:TypeId):
 ∃w',(Builtin.delete_ #[117,40] ty #[.map (some bt),.agg #[.int .i64 o.1,.int .i64 o.2]]).run prog w= .ok (.tuple #[]) w'∧qO prog 40 w' bt (EF (T.erase o))∧w.mapTurned w' bt:=by
 obtain⟨w',h1,h2,h3⟩:=h.drop Qs iH (keyO ho) ty;rw[del_set hn hT ho] at h2;exact⟨w',h1,h2,h3⟩
theorem qO.insG {w:World} {bg:Nat} {G:List (Int×Ob)} {t:Int} {o:Ob} (h:qO prog 3 w bg (Dm G)) (ht:kW t) (hn: ∀g∈G,g.1≠t) (hl:G.length≤65536):
 ∃w',(Instr.mapUpdate 118 (.map (some bg)) (.int .i64 t) (.agg #[.int .i64 o.1,.int .i64 o.2])).run prog w= .ok () w'∧qO prog 3 w' bg (Dm (G++[(t,o)]))∧w.mapTurned w' bg:=by
 obtain⟨w',h1,h2,h3⟩:=h.put uV iI (by unfold Dm maxLen;simp;omega) (val:=.agg #[.int .i64 o.1,.int .i64 o.2]) (keyOf_int_mk bB (wf64 ht));have e1:pG (Dm G) (.int .i64 t)=none:=by
  rw[Qu,fB.2]
  ·rfl
  ·intro g hg;simpa using hn g hg
 rw[Ch e1] at h2;refine⟨w',h1,h2.perm ?_,h3⟩;unfold Dm;simp only[dz,bH,eu];exact(jF (l₁:=[(Lit.int .i64 t,Value.agg #[.int .i64 o.1,.int .i64 o.2])]) (l₂:=G.map fun g=>(Lit.int .i64 g.1,Value.agg #[.int .i64 g.2.1,.int .i64 g.2.2])))
section
variable {pd pc pz e:Nat} {mn:Int} {O:List (List Int)} {ev:Nat→Addr} {w0:World} {E:sG pd pc pz e mn O ev w0} {X F:List Nat} {w:World} {pp:Nat} {p:Po}
def bO (o:Ob):Obj:=.cells #[.int .i64 o.1,.int .i64 o.2] 40
theorem pgive_A (k:Int) (o:Ob) (h:PoX E X F pp p w) (hc:p.cl=true):
 Calls prog 15 #[.pointer (some ⟨pp,0,none⟩),.int .i64 k,.agg #[.int .i64 o.1,.int .i64 o.2]] w (EPost (kQ E pp).S X F p w (kM ev 4)):=by
 have e4:kM ev 4= .iface 336 (.pointer (some (ev 4))):=rfl;rw[e4];have FIN:Hid (∀W,Below w.heap.size w W→EPost (kQ E pp).S X F p w (.iface 336 (.pointer (some (ev 4)))) (.returned (.iface 336 (.pointer (some (ev 4))))) W):=fun W b=>⟨rfl,nN.same h b⟩
 have b1:Below w.heap.size w (w.alloc (bO o)):=by unfold bO;exact jY
 have HE:=h.err.go b1;obtain⟨⟨bt,bg,vr,vw,q⟩,hi⟩:=h.go b1;have c7:=q.b.c.gC 7;have cl:=q.b.c.lt;rw[hc] at c7;have gs:(w.alloc (bO o)).cell? ⟨2,0,none⟩=some (.iface 336 (.pointer (some (ev 4)))):=(HE.at 4 (by decide) (by decide)).1;have gl:2<(w.alloc (bO o)).heap.size:=(HE.at 4 (by decide) (by decide)).2;obtain⟨W1,hW1⟩:=eX (w.alloc (bO o));rw[hW1] at c7 cl gs gl b1;have HB:=ah b1;clear q hi h HE hc b1 e4;go_in
 unfold bO at hW1;go_wp2;go_ret;exact FIN.out _ HB.out
theorem pgive_B (k:Int) (o:Ob) (h:PoX E X F pp p w) (hc:p.cl=false) (hw:mG p k=false):
 Calls prog 15 #[.pointer (some ⟨pp,0,none⟩),.int .i64 k,.agg #[.int .i64 o.1,.int .i64 o.2]] w (EPost (kQ E pp).S X F p w (kM ev 2)):=by
 have e2:kM ev 2= .iface 336 (.pointer (some (ev 2))):=rfl;rw[e2];have FIN:Hid (∀W,Below w.heap.size w W→EPost (kQ E pp).S X F p w (.iface 336 (.pointer (some (ev 2)))) (.returned (.iface 336 (.pointer (some (ev 2))))) W):=fun W b=>⟨rfl,nN.same h b⟩
 have b1:Below w.heap.size w (w.alloc (bO o)):=by unfold bO;exact jY
 have HE:=h.err.go b1;obtain⟨⟨bt,bg,vr,vw,q⟩,hi⟩:=h.go b1;have c7:=q.b.c.gC 7;have c0:=q.b.c.gC 0;have cl:=q.b.c.lt;have WK:=ah (E.work q.s);rw[hc] at c7;have gs:(w.alloc (bO o)).cell? ⟨1,0,none⟩=some (.iface 336 (.pointer (some (ev 2)))):=(HE.at 2 (by decide) (by decide)).1;have gl:1<(w.alloc (bO o)).heap.size:=(HE.at 2 (by decide) (by decide)).2;unfold mG at hw;obtain⟨n,hn⟩:=eY p.d.H.length;rw[←hn] at WK hw;have hw':=of_decide_eq_false hw;have hd:(k<0∧decide (k<0)=true)∨(¬k<0∧decide (k<0)=false∧decide ((n:Int)≤k)=true):=by
  by_cases h0:k<0
  ·exact .inl ⟨h0,dQt h0⟩
  ·exact .inr ⟨h0,dQf h0,dQt om⟩
 obtain⟨W1,hW1⟩:=eX (w.alloc (bO o));rw[hW1] at c7 c0 cl gs gl b1 WK;have HB:=ah b1;clear q hi h HE hc b1 e2 hn hw hw';rcases hd with⟨h0,d0⟩|⟨h0,d0,d1⟩
 ·go_in
  unfold bO at hW1;go_wp2;go_ret;exact FIN.out _ HB.out
 ·go_in
  unfold bO at hW1;go_wp2_with fail;refine WK.out.mono ?_;rintro r w1 ⟨rfl,rfl⟩;clear hW1;go_wp2;go_ret;exact FIN.out _ HB.out
theorem pgive_C (k:Int) (o:Ob) (h:PoX E X F pp p w) (hc:p.cl=false) (hw:mG p k=true) (ho:qJ o) (hT:o∉p.T):
 Calls prog 15 #[.pointer (some ⟨pp,0,none⟩),.int .i64 k,.agg #[.int .i64 o.1,.int .i64 o.2]] w (EPost (kQ E pp).S X F p w (kM ev 9)):=by
 have e9:kM ev 9= .iface 336 (.pointer (some (ev 9))):=rfl;rw[e9];have FIN:Hid (∀W,Below w.heap.size w W→EPost (kQ E pp).S X F p w (.iface 336 (.pointer (some (ev 9)))) (.returned (.iface 336 (.pointer (some (ev 9))))) W):=fun W b=>⟨rfl,nN.same h b⟩
 have b1:Below w.heap.size w (w.alloc (bO o)):=by unfold bO;exact jY
 have HE:=h.err.go b1;obtain⟨⟨bt,bg,vr,vw,q⟩,hi⟩:=h.go b1;have c7:=q.b.c.gC 7;have c0:=q.b.c.gC 0;have c3:=q.b.c.gC 3;have cl:=q.b.c.lt;have WK:=ah (E.work q.s);rw[hc] at c7;have gs:(w.alloc (bO o)).cell? ⟨5,0,none⟩=some (.iface 336 (.pointer (some (ev 9)))):=(HE.at 9 (by decide) (by decide)).1;have gl:5<(w.alloc (bO o)).heap.size:=(HE.at 9 (by decide) (by decide)).2;unfold mG at hw;obtain⟨n,hn⟩:=eY p.d.H.length;rw[←hn] at WK hw;have hw':=of_decide_eq_true hw;have d0:decide (k<0)=false:=dQf om;have d1:decide ((n:Int)≤k)=false:=dQf om;have LB:=jR.mk_ w [.int .i64 o.1,.int .i64 o.2] 40 rfl;have m0:=LB.gC 0;have m1:=LB.gC 1;have ml:=LB.lt;have lk:=fun m=>(q.b.t.below (w':=(w.alloc (bO o)).drewN m) (below_drewN (aL _ _) _)).isT hi.Ip ho
 rw[dQf hT] at lk;obtain⟨W1,hW1⟩:=eX (w.alloc (bO o));have hW2:=hW1;unfold bO at hW2;rw[hW1] at c7 c0 c3 cl gs gl b1 WK lk;rw[hW2] at m0 m1 ml;have HB:=ah b1;clear q hi h HE hc b1 e9 hn hw hw' ho hT LB hW1;go_in
 go_wp2_with fail;refine WK.out.mono ?_;rintro r w1 ⟨rfl,rfl⟩;clear hW2;go_wp2;go_quiet (fail);go_wp2;go_ret;exact FIN.out _ (HB.out.trans jY)
theorem pgive_D1 (k:Int) (o:Ob) (h:PoX E X F pp p w) (hc:p.cl=false) (hw:mG p k=true) (ho:qJ o) (hT:o∈p.T) {t:Int} {W':List Int} (hW:p.W=t::W') (hP:nX e ⟨p.d,p.most,p.R,p.T.erase o,W',p.G++[(t,o)],p.last,p.cl⟩) (hlast:p.last<4611686018427387904):
 Calls prog 15 #[.pointer (some ⟨pp,0,none⟩),.int .i64 k,.agg #[.int .i64 o.1,.int .i64 o.2]] w (EPost (kQ E pp).S X F ⟨p.d,p.most,p.R,p.T.erase o,W',p.G++[(t,o)],p.last,p.cl⟩ w .nilIface):=by
 have b1:Below w.heap.size w (w.alloc (bO o)):=by unfold bO;exact jY
 have H1:=ah (h.go b1);obtain⟨⟨bt,bg,vr,vw,q⟩,hi⟩:=h.go b1;have c7:=q.b.c.gC 7;have c0:=q.b.c.gC 0;have c3:=q.b.c.gC 3;have cl:=q.b.c.lt;have WK:=ah (E.work q.s);rw[hc] at c7;unfold mG at hw;obtain⟨n,hn⟩:=eY p.d.H.length;rw[←hn] at WK hw;have hw':=of_decide_eq_true hw;have d0:decide (k<0)=false:=dQf om;have d1:decide ((n:Int)≤k)=false:=dQf om;have LB:=jR.mk_ w [.int .i64 o.1,.int .i64 o.2] 40 rfl;have m0:=LB.gC 0;have m1:=LB.gC 1;have ml:=LB.lt;have lk:=fun m=>(q.b.t.below (w':=(w.alloc (bO o)).drewN m) (below_drewN (aL _ _) _)).isT hi.Ip ho
 rw[dQt hT] at lk;obtain⟨W1,hW1⟩:=eX (w.alloc (bO o));have hW2:=hW1;unfold bO at hW2;rw[hW1] at c7 c0 c3 cl b1 WK lk q H1;rw[hW2] at m0 m1 ml LB;have HB:=ah b1;have HLB:=ah LB;have HQ:=ah q;have HO:=ah ho;have HT:=ah hT;have HI:=ah hi;have nbx:w.heap.size∉pws pp bt bg vw:=fun r=>by
  have:=(h.lim _ (E.sU q.s _ (av _ r))).2;omega
 have HNB:=ah nbx;clear q hi h hc b1 hn hw hw' ho hT LB hW1 nbx;go_in
 go_wp2_with fail;refine WK.out.mono ?_;rintro r w1 ⟨rfl,rfl⟩;clear hW2;go_wp2_with fail;go_quiet (fail);rename_i nq;obtain⟨w2,hw2⟩:=eX (w1.drewN nq);have hb2:Below w1.heap.size w1 w2:=by rw[←hw2];exact below_drewN (aL _ _) _
 try rw[hw2]
 clear hw2;have q2:=HQ.out.go hb2;have L2:=HLB.out.go hb2;have HB2:=ah (HB.out.trans (hb2.mono HB.out.size));clear c7 c0 c3 cl m0 m1 ml lk hb2;have c3:=q2.b.c.gC 3;have cl:=q2.b.c.lt;have m0:=L2.gC 0;have m1:=L2.gC 1;have ml:=L2.lt;have dl:=fun ty=>(q2.b.t.keep (Keep.refl [] w2).drew sI).delT HI.out.ndT HI.out.Ip HO.out ty
 obtain⟨w3,WE,M3,T3⟩:=dl 0;have K3:Keep [bt] w2 w3:=(Keep.refl [bt] w2).drew.then (mJ T3 (.inl sI));obtain⟨m_1,m_2,m_3,m_4,m_5,m_6⟩:=q2.b.ne;have L3:=L2.keep K3 (by simp;exact fun r=>HNB.out (r▸nY));have C3:=q2.b.c.keep K3 (by simpa using m_1);have O3:=jQ q2.b.ow K3 (fun s hs=>by simp at hs;subst hs;exact m_5);have G3:=q2.b.g.keep K3 (by simp;exact fun r=>m_3 r.symm);rw[hW] at O3;obtain⟨gw,kw,rfl⟩: ∃gw kw,vw= .slice (some ⟨gw,0,none⟩) p.W.length kw:=by
  rcases q2.b.ow.2 with⟨_,e2⟩|⟨g,cap,cur,e,_⟩
  ·rw[hW] at e2;simp at e2
  ·exact⟨_,_,e⟩
 obtain⟨N,hN⟩:=eY W'.length;have HN:=ah hN;have pl:p.W.length=N+1:=by rw[hW,hN];simp
 rw[pl] at O3;rw[show(t::W').length=N+1 by rw[hN];simp] at O3;have c4:=C3.gC 4;have c5:=C3.gC 5;have cl3:=C3.lt;have f4:=C3.f 4 (by simp[kS]);rw[pl] at c4;have t0:=O3.cellAt 0 om;simp only[ints,bH,List.getElem?_cons_zero] at t0;have gwl:=(O3.lt gw rfl).2;have n0:=L3.gC 0;have n1:=L3.gC 1;have nl:=L3.lt;have ft:kW t:=by
  have:=HI.out.wl t (by rw[hW];exact aG ..);unfold kW;omega
 obtain⟨w4,hrun4,M4,T4⟩:=(G3.keep (Keep.refl [] w3).drew sI).insG (o:=o) ft (fun g hg r=>HI.out.wg g hg (by rw[r,hW];exact aG ..)) HI.out.Jh.2;have d9:decide ((0:Int)<((N+1:Nat):Int))=true:=dQt om;have d9':decide (0<N+1)=true:=dQt om;have N1:(0:Int)<(N:Int)+1:=om;have K4:Keep [bg] w3 w4:=(Keep.refl [bg] w3).drew.then (mJ T4 (.inl sI));have HC3:=ah C3;have C4:=C3.keep K4 (by simpa using m_2);have O4:=jQ O3 K4 (fun s hs=>by simp at hs;subst hs;exact m_6);have y4:=C4.gC 4;have yl:=C4.lt;have yf:=C4.f 4 (by simp[kS]);rw[pl] at y4;have eL:(t::W').length=N+1:=by rw[hN];simp
 have CL0:=Ck (.slice (some ⟨gw,0,none⟩) (N+1) kw) (t::W') w4 (by rw[eL];exact O4) (by rw[eL,←pl];have:=HI.out.w;omega);rw[eL] at CL0;have CL:=ah CL0;have DL:Hid (∀W B g kk,W.ownsRow B 3 1 (.slice (some ⟨g,0,none⟩) (N+1) kk) (N+1) (ints (t::W'))→Calls prog 65 #[.slice (some ⟨g,0,none⟩) (N+1) kk,.int .i64 0,.int .i64 1] W fun r w'=>r= .returned (.slice (some ⟨g,0,none⟩) N kk)∧w'.ownsRow B 3 1 (.slice (some ⟨g,0,none⟩) N kk) N (ints W')∧Keep [g] W w'):=fun W B g kk ho=>by
  obtain⟨rest,r1,r2,r3,r4,r5,r6⟩:=Au ho;have:=Wx (B:=B) g kk 0 (ints (t::W')) rest W r1 r2 r5 r6 (by rw[r3];omega) (pO _) (by rw[r3,←pl];have:=HI.out.w;omega);rw[r3] at this;refine(show Calls prog 65 #[.slice (some ⟨g,0,none⟩) (N+1) kk,.int .i64 0,.int .i64 1] W (AL B g kk 0 (ints (t::W')) W) from this).mono fun r w' ⟨a,b,c⟩=> ?_
  rw[r3] at a b;exact⟨a,b,c⟩
 have HM4:=ah M4;have HM3:=ah M3;have HK3:=ah K3;have HK4:=ah K4;have HQ2:=ah q2;have HC4:=ah C4;have HO4:=ah O4;have HPL:=ah pl;have FINP:=ah hP;clear dl T3 T4 M3 M4 K3 K4 C3 C4 O3 O4 G3 q2 L2 L3 CL0 eL hP hW hN pl ft;go_wp2_with fail;refine lJ 5 kR kR ?_;simp only[aQ,aV,aP,aU];repeat still_step
 refine wpStill_nil ?_;go_wp2_with fail;refine lJ 11 kR kR ?_;simp only[aQ,aV,aP,aU];repeat still_step
 refine wpStill_nil ?_;go_wp2_with fail;refine CL.out.mono ?_;rintro r w5 ⟨q5,k5,rfl,O5,hb5⟩;obtain⟨g5,rfl⟩: ∃g5,q5=some ⟨g5,0,none⟩:=by
  rcases O5.2 with⟨_,e2⟩|⟨g,cap,cur,e,_⟩
  ·omega
  ·exact⟨g,(fu e).1⟩
 have C5:=HC4.out.go hb5;have y4':=C5.gC 4;have yl':=C5.lt;have yf':=C5.f 4 (by simp[kS]);have g5l:=O5.lt g5 rfl;have HC5:=ah C5;have HB5:=ah hb5;clear y4 yl yf C5 hb5 WE hrun4;go_wp2_with fail;refine(DL.out w5 _ g5 k5 O5).mono ?_;rintro r w6 ⟨rfl,O6,K6⟩;have pg:pp≠g5:=fun r=>by have:=HC4.out.lt;omega
 have C6:=HC5.out.keep K6 (by simpa using pg);have z4:=C6.gC 4;have zl:=C6.lt;have zf:=C6.f 4 (by simp[kS]);have HC6:=ah C6;have HK6:=ah K6;have HO6:=ah O6;clear y4' yl' yf' C6 K6 O6;go_wp2;go_ret;refine⟨rfl,nN.ahead HB2.out ?_⟩;obtain⟨w7,hw7⟩:=eY (w6.setCell ⟨pp,4,none⟩ (.slice (some ⟨g5,0,none⟩) N k5));rw[←hw7];have K7:Keep [pp] w6 w7:=by rw[hw7];exact(Keep.refl _ _).setCell (p:=⟨pp,4,none⟩) (.inl sI) _
 have z2:=HK3.out.size;have z3:=HK4.out.size;have z5:=HB5.out.size;have z6:=HK6.out.size;have z7:=K7.size;have g5n: ∀s∈[g5],s∈pws pp bt bg (.slice (some ⟨gw,0,none⟩) p.W.length kw)∨w2.heap.size≤s:=fun s r=>by simp at r;subst r;exact .inr om
 have KA:Keep (pws pp bt bg (.slice (some ⟨gw,0,none⟩) p.W.length kw)) w2 w7:=
  ((((HK3.out.mono (fun s r=>by simp at r;subst r;exact nY)).then (HK4.out.mono (fun s r=>by simp at r;subst r;exact tC))).step HB5.out).trans HK6.out g5n).then (K7.mono (fun s r=>by simp at r;subst r;exact nK))
 have far: ∀y,y<w4.heap.size→y∉[g5]:=fun y hy r=>by simp at r;omega
 have lt2:=fun y hy=>(HQ2.out.b.lim y hy).2
 have lpp:=lt2 pp nK;have lbt:=lt2 bt nY;have lbg:=lt2 bg tC;refine HQ2.out.putW (vw':=.slice (some ⟨g5,0,none⟩) N k5) (p':=⟨p.d,p.most,p.R,p.T.erase o,W',p.G++[(t,o)],p.last,p.cl⟩) KA (fun y hy=> ?_) ?_ ?_ ?_ ?_ rfl rfl FINP.out
 ·have:y=g5:=by simpa[jS,Value.ownBlock,eq_comm] using hy
  subst this;exact .inr ⟨om,by have:=(HO6.out.lt y rfl).2;omega⟩
 ·rw[hw7]
  exact HC6.out.store 4 (.slice (some ⟨g5,0,none⟩) N k5) (by simp[kS])
 ·exact(((HM3.out.keep HK4.out (by simpa using m_3)).below HB5.out).keep HK6.out (far bt om)).keep K7 (by simp;exact fun r=>m_1 r.symm)
 ·have:=jQ HO6.out K7 (fun s r t'=>by
   simp at r;subst r;have:s=g5:=by simpa[jS,Value.ownBlock,eq_comm] using t'
   exact pg this)
  rw[HN.out] at this;rw[HN.out];exact qB this (by have:=(E.bel HQ2.out.s).size;omega)
 ·exact((HM4.out.below HB5.out).keep HK6.out (far bg om)).keep K7 (by simp;exact fun r=>m_2 r.symm)
theorem pgive_D3 (k:Int) (o:Ob) (h:PoX E X F pp p w) (hc:p.cl=false) (hw:mG p k=true) (ho:qJ o) (hT:o∈p.T) (hW:p.W=[]) (hR: ¬p.R.length<p.most) (hP:nX e ⟨(lI e p.d k o).1,p.most,p.R,p.T.erase o,[],p.G,p.last,p.cl⟩) (hP1:nX e ⟨p.d,p.most,p.R,p.T.erase o,[],p.G,p.last,p.cl⟩):
 Calls prog 15 #[.pointer (some ⟨pp,0,none⟩),.int .i64 k,.agg #[.int .i64 o.1,.int .i64 o.2]] w (EPost (kQ E pp).S X F ⟨(lI e p.d k o).1,p.most,p.R,p.T.erase o,[],p.G,p.last,p.cl⟩ w (kM ev (lI e p.d k o).2)):=by
 obtain⟨⟨d',cc⟩,hd⟩: ∃r,r=lI e p.d k o:=⟨_,rfl⟩;rw[←hd] at hP ⊢;have HD:=ah hd;have HP:=ah hP;have HP1:=ah hP1;clear hd hP hP1;simp only;have b1:Below w.heap.size w (w.alloc (bO o)):=by unfold bO;exact jY
 have H1:=ah (h.go b1);obtain⟨⟨bt,bg,vr,vw,q⟩,hi⟩:=h.go b1;have c7:=q.b.c.gC 7;have c0:=q.b.c.gC 0;have c3:=q.b.c.gC 3;have cl:=q.b.c.lt;have WK:=ah (E.work q.s);rw[hc] at c7;unfold mG at hw;obtain⟨n,hn⟩:=eY p.d.H.length;rw[←hn] at WK hw;have hw':=of_decide_eq_true hw;have d0:decide (k<0)=false:=dQf om;have d1:decide ((n:Int)≤k)=false:=dQf om;have LB:=jR.mk_ w [.int .i64 o.1,.int .i64 o.2] 40 rfl;have m0:=LB.gC 0;have m1:=LB.gC 1;have ml:=LB.lt;have lk:=fun m=>(q.b.t.below (w':=(w.alloc (bO o)).drewN m) (below_drewN (aL _ _) _)).isT hi.Ip ho
 rw[dQt hT] at lk;obtain⟨W1,hW1⟩:=eX (w.alloc (bO o));have hW2:=hW1;unfold bO at hW2;rw[hW1] at c7 c0 c3 cl b1 WK lk q H1;rw[hW2] at m0 m1 ml LB;have HB:=ah b1;have HLB:=ah LB;have HQ:=ah q;have HO:=ah ho;have HT:=ah hT;have HI:=ah hi;have nbx:w.heap.size∉pws pp bt bg vw:=fun r=>by
  have:=(h.lim _ (E.sU q.s _ (av _ r))).2;omega
 have HNB:=ah nbx;clear q hi h hc b1 hn hw hw' ho hT LB hW1 nbx;go_in
 go_wp2_with fail;refine WK.out.mono ?_;rintro r w1 ⟨rfl,rfl⟩;clear hW2;go_wp2_with fail;go_quiet (fail);rename_i nq;obtain⟨w2,hw2⟩:=eX (w1.drewN nq);have hb2:Below w1.heap.size w1 w2:=by rw[←hw2];exact below_drewN (aL _ _) _
 try rw[hw2]
 clear hw2;have q2:=HQ.out.go hb2;have L2:=HLB.out.go hb2;have HB2:=ah (HB.out.trans (hb2.mono HB.out.size));clear c7 c0 c3 cl m0 m1 ml lk hb2;have c3:=q2.b.c.gC 3;have cl:=q2.b.c.lt;have m0:=L2.gC 0;have m1:=L2.gC 1;have ml:=L2.lt;have dl:=fun ty=>(q2.b.t.keep (Keep.refl [] w2).drew sI).delT HI.out.ndT HI.out.Ip HO.out ty
 obtain⟨w3,WE,M3,T3⟩:=dl 0;have K3:Keep [bt] w2 w3:=(Keep.refl [bt] w2).drew.then (mJ T3 (.inl sI));obtain⟨m_1,m_2,m_3,m_4,m_5,m_6⟩:=q2.b.ne;have L3:=L2.keep K3 (by simp;exact fun r=>HNB.out (r▸nY));have C3:=q2.b.c.keep K3 (by simpa using m_1);have G3:=q2.b.g.keep K3 (by simp;exact fun r=>m_3 r.symm);have R3:=q2.b.r.keep K3 (fun s r=>by simp at r;subst r;exact .inl (q2.inX _ nY));obtain⟨qw,kw,rfl⟩:=l6 q2.b.ow;obtain⟨qr,kr,rfl,hcr,hkr⟩:=q2.b.r.isSlice;have c4:=C3.gC 4;have c2:=C3.gC 2;have c1':=C3.gC 1;have cl3:=C3.lt;have f2:=C3.f 2 (by simp[kS]);rw[hW] at c4;rw[show([]:List Int).length=0 from rfl] at c4;have n0:=L3.gC 0;have n1:=L3.gC 1;have nl:=L3.lt;obtain⟨N,hN⟩:=eY p.R.length;have EN:=ah hN;have N16:N≤16:=by have h1:=HI.out.r;have h2:=HI.out.m1.2;omega
 rw[←hN] at c2;obtain⟨M,hM⟩:=eY p.most;have EM:=ah hM;rw[←hM] at c1';rw[←hN,←hM] at hR;have d9:decide ((N:Int)<(M:Int))=false:=dQf om;have d9':decide (N<M)=false:=dQf om;have c0:=C3.gC 0;have M1:Hid (nN E X F pp ⟨p.d,p.most,p.R,p.T.erase o,[],p.G,p.last,p.cl⟩ w2 w3):=
  q2.putR (p':=⟨p.d,p.most,p.R,p.T.erase o,[],p.G,p.last,p.cl⟩) (K3.mono (fun s r=>by simp at r;subst r;simp)) C3 M3 G3 R3 hW.symm rfl HP1.out
 have HL3:=ah L3;clear dl T3 M3 K3 C3 G3 R3 q2 L2 L3 hW hN hM hR hcr hkr;go_wp2_with fail;refine lJ 5 kR kR ?_;simp only[aQ,aV,aP,aU];repeat still_step
 refine wpStill_nil ?_;go_wp2_with fail;clear WE c3 cl m0 m1 ml;refine kG kR kR ?_;repeat(go_big_quiet_step (fail))
 refine wpQuiet_nil ?_;intro w4 hw';have hb4:=lN hw';clear hw';have z4:=hb4.size;try simp at z4
 have y0:=(hb4.cell (p:=⟨pp,0,none⟩) cl3).trans c0;have yl:=aC cl3 hb4.size;have L4:=HL3.out.go hb4;have z0:=L4.gC 0;have z1:=L4.gC 1;have zl:=L4.lt;have HB4:=ah (hb4.trans (show Below w3.heap.size w4 w4.drew from by have:=hb4.size;exact(aL _ _).drew));have M4:=M1.out.behind HB4.out;obtain⟨X4,x1,x2,x3,x4⟩:=id M4;have HM4:=ah M4;have GV:Hid (Calls prog 50 #[.pointer (some ⟨pd,0,none⟩),.int .i64 k,.agg #[.int .i64 o.1,.int .i64 o.2]] w4.drew (fun r w'=>r= .returned (kM ev cc)∧nN E X F pp ⟨d',p.most,p.R,p.T.erase o,[],p.G,p.last,p.cl⟩ w2 w')):=by
  obtain⟨Z,s1,s2⟩:=x1.Dn (d:=d') HP.out;have:=E.give k o s1 HO.out.2.1 HO.out.2.2;rw[show(⟨p.d,p.most,p.R,p.T.erase o,[],p.G,p.last,p.cl⟩:Po).d=p.d from rfl,←HD.out] at this;refine this.mono fun r w' hp=> ?_
  obtain⟨h1,hm⟩:=s2 hp;refine⟨h1,?_⟩;obtain⟨X5,k1,k2,k3,k4⟩:=hm;have z:=x2.size;refine⟨X5,k1,Io x3 x2 k2,fun x q=> ?_,fun x q=>k4 x (x4 x q)⟩;rcases k3 x q with t|t
  ·exact x3 x t
  ·exact .inr om
 clear L4 hb4 c0 c1' c2 c4 cl3 n0 n1 nl f2 M4 x1 x2 x3 x4;go_wp2_with fail;refine lJ 6 kR kR ?_;simp only[aQ,aV,aP,aU];repeat still_step
 refine wpStill_nil ?_;go_wp2_with fail;refine GV.out.mono ?_;rintro r w5 ⟨rfl,hm⟩;have HM:=ah hm;clear hm;go_wp2;go_ret;exact⟨rfl,nN.ahead HB2.out HM.out⟩
theorem pgive_D2 (k:Int) (o:Ob) (h:PoX E X F pp p w) (hc:p.cl=false) (hw:mG p k=true) (ho:qJ o) (hT:o∈p.T) (hW:p.W=[]) (hR:p.R.length<p.most) (hP:nX e ⟨p.d,p.most,p.R++[o],p.T.erase o,[],p.G,p.last,p.cl⟩):
 Calls prog 15 #[.pointer (some ⟨pp,0,none⟩),.int .i64 k,.agg #[.int .i64 o.1,.int .i64 o.2]] w (EPost (kQ E pp).S X F ⟨p.d,p.most,p.R++[o],p.T.erase o,[],p.G,p.last,p.cl⟩ w .nilIface):=by
 have HP:=ah hP;clear hP;have b1:Below w.heap.size w (w.alloc (bO o)):=by unfold bO;exact jY
 have H1:=ah (h.go b1);obtain⟨⟨bt,bg,vr,vw,q⟩,hi⟩:=h.go b1;have c7:=q.b.c.gC 7;have c0:=q.b.c.gC 0;have c3:=q.b.c.gC 3;have cl:=q.b.c.lt;have WK:=ah (E.work q.s);rw[hc] at c7;unfold mG at hw;obtain⟨n,hn⟩:=eY p.d.H.length;rw[←hn] at WK hw;have hw':=of_decide_eq_true hw;have d0:decide (k<0)=false:=dQf om;have d1:decide ((n:Int)≤k)=false:=dQf om;have LB:=jR.mk_ w [.int .i64 o.1,.int .i64 o.2] 40 rfl;have m0:=LB.gC 0;have m1:=LB.gC 1;have ml:=LB.lt;have lk:=fun m=>(q.b.t.below (w':=(w.alloc (bO o)).drewN m) (below_drewN (aL _ _) _)).isT hi.Ip ho
 rw[dQt hT] at lk;obtain⟨W1,hW1⟩:=eX (w.alloc (bO o));have hW2:=hW1;unfold bO at hW2;rw[hW1] at c7 c0 c3 cl b1 WK lk q H1;rw[hW2] at m0 m1 ml LB;have HB:=ah b1;have HLB:=ah LB;have HQ:=ah q;have HO:=ah ho;have HT:=ah hT;have HI:=ah hi;have nbx:w.heap.size∉pws pp bt bg vw:=fun r=>by
  have:=(h.lim _ (E.sU q.s _ (av _ r))).2;omega
 have HNB:=ah nbx;clear q hi h hc b1 hn hw hw' ho hT LB hW1 nbx;go_in
 go_wp2_with fail;refine WK.out.mono ?_;rintro r w1 ⟨rfl,rfl⟩;clear hW2;go_wp2_with fail;go_quiet (fail);rename_i nq;obtain⟨w2,hw2⟩:=eX (w1.drewN nq);have hb2:Below w1.heap.size w1 w2:=by rw[←hw2];exact below_drewN (aL _ _) _
 try rw[hw2]
 clear hw2;have q2:=HQ.out.go hb2;have L2:=HLB.out.go hb2;have HB2:=ah (HB.out.trans (hb2.mono HB.out.size));clear c7 c0 c3 cl m0 m1 ml lk hb2;have c3:=q2.b.c.gC 3;have cl:=q2.b.c.lt;have m0:=L2.gC 0;have m1:=L2.gC 1;have ml:=L2.lt;have dl:=fun ty=>(q2.b.t.keep (Keep.refl [] w2).drew sI).delT HI.out.ndT HI.out.Ip HO.out ty
 obtain⟨w3,WE,M3,T3⟩:=dl 0;have K3:Keep [bt] w2 w3:=(Keep.refl [bt] w2).drew.then (mJ T3 (.inl sI));obtain⟨m_1,m_2,m_3,m_4,m_5,m_6⟩:=q2.b.ne;have L3:=L2.keep K3 (by simp;exact fun r=>HNB.out (r▸nY));have C3:=q2.b.c.keep K3 (by simpa using m_1);have G3:=q2.b.g.keep K3 (by simp;exact fun r=>m_3 r.symm);have R3:=q2.b.r.keep K3 (fun s r=>by simp at r;subst r;exact .inl (q2.inX _ nY));obtain⟨qw,kw,rfl⟩:=l6 q2.b.ow;obtain⟨qr,kr,rfl,hcr,hkr⟩:=q2.b.r.isSlice;have c4:=C3.gC 4;have c2:=C3.gC 2;have c1':=C3.gC 1;have cl3:=C3.lt;have f2:=C3.f 2 (by simp[kS]);rw[hW] at c4;rw[show([]:List Int).length=0 from rfl] at c4;have n0:=L3.gC 0;have n1:=L3.gC 1;have nl:=L3.lt;obtain⟨N,hN⟩:=eY p.R.length;have EN:=ah hN;have N16:N≤16:=by have h1:=HI.out.r;have h2:=HI.out.m1.2;omega
 rw[←hN] at c2;obtain⟨M,hM⟩:=eY p.most;have EM:=ah hM;rw[←hM] at c1';rw[←hN,←hM] at hR;have d9:decide ((N:Int)<(M:Int))=true:=dQt om;have d9':decide (N<M)=true:=dQt hR;have R3':mD X w3 (.slice qr N kr) p.R:=by rw[hN];exact R3
 obtain⟨rc,e0,nc,qn⟩:=mD.clip R3';clear e0;have hNM:N<M:=hR;have HRC:=ah rc;have CL:Hid (∀W,Calls prog 67 #[.slice qr N kr] W fun e w'=>e= .returned (.slice qr N N)∧w'=W):=fun W=>AA qr N kr W qn nc
 have HL3:=ah L3;have HC3:=ah C3;have HM3:=ah M3;have HG3:=ah G3;have HK3:=ah K3;have HQ2:=ah q2;have HW:=ah hW;clear dl T3 M3 K3 C3 G3 R3 R3' rc q2 L2 L3 hW hN hM hR hcr hkr;go_wp2_with fail;refine lJ 5 kR kR ?_;simp only[aQ,aV,aP,aU];repeat still_step
 refine wpStill_nil ?_;go_wp2_with fail;clear WE c3 cl m0 m1 ml;refine kG kR kR ?_;repeat(go_big_quiet_step (fail))
 refine wpQuiet_nil ?_;intro w4 hw';have hb4:=lN hw';clear hw';have z4:=hb4.size;try simp at z4
 have y2:=(hb4.cell (p:=⟨pp,2,none⟩) cl3).trans c2;have yf:=(hb4.frozen (p:=⟨pp,2,none⟩) cl3).trans f2;have yl:=aC cl3 hb4.size;have L4:=HL3.out.go hb4;have z0:=L4.gC 0;have z1:=L4.gC 1;have zl:=L4.lt;have HB4:=ah hb4;have HL4:=ah L4;have npx: ¬(pp=w.heap.size):=fun r=>HNB.out (r▸nK)
 have npx': ¬(w.heap.size=pp):=fun r=>npx r.symm
 have NB0:Hid ((w4.alloc (.cells #[.int .i64 o.1,.int .i64 o.2] 40)).drew.cell? ⟨w4.heap.size,0+0,none⟩=some (.int .i64 o.1)):=(jR.mk_ w4 [.int .i64 o.1,.int .i64 o.2] 40 rfl).mP.gC 0;have NB1:Hid ((w4.alloc (.cells #[.int .i64 o.1,.int .i64 o.2] 40)).drew.cell? ⟨w4.heap.size,0+1,none⟩=some (.int .i64 o.2)):=(jR.mk_ w4 [.int .i64 o.1,.int .i64 o.2] 40 rfl).mP.gC 1;have FIN:Hid (∀w5 g' k',Below w4.heap.size w4 w5→w5.ownsRow ((w4.alloc (.cells #[.int .i64 o.1,.int .i64 o.2] 40)).drew).heap.size 40 2 (.slice (some ⟨g',0,none⟩) (N+1) k') (N+1) (l8 (p.R++[o]))→
  EPost (kQ E pp).S X F ⟨p.d,p.most,p.R++[o],p.T.erase o,[],p.G,p.last,p.cl⟩ w .nilIface (.returned .nilIface) (w5.setCell ⟨pp,2,none⟩ (.slice (some ⟨g',0,none⟩) (N+1) k'))):=fun w5 g' k' hb hown=>by
  refine⟨rfl,nN.ahead HB2.out ?_⟩;obtain⟨w6,hw6⟩:=eY (w5.setCell ⟨pp,2,none⟩ (.slice (some ⟨g',0,none⟩) (N+1) k'));rw[←hw6];have K6:Keep [pp] w5 w6:=by rw[hw6];exact(Keep.refl _ _).setCell (p:=⟨pp,2,none⟩) (.inl sI) _
  have z2:=HK3.out.size;have z4:=HB4.out.size;have z5:=hb.size;have KA:Keep [pp,bt,bg] w2 w6:=(((HK3.out.mono (fun s r=>by simp at r;subst r;simp)).step HB4.out).step hb).then (K6.mono (fun s r=>by simp at r;subst r;simp));have hg:=hown.lt g' rfl;have hs:((w4.alloc (.cells #[.int .i64 o.1,.int .i64 o.2] 40)).drew).heap.size=w4.heap.size+1:=sI;rw[hs] at hg;have hgX:g'∉X:=fun q=>by have:=(E.lim HQ2.out.s g' q).2;omega
  have en:N+1=(p.R++[o]).length:=by rw[EN.out];simp
  have ro:mD X w5 (.slice (some ⟨g',0,none⟩) (N+1) k') (p.R++[o]):=by
   rw[en] at hown ⊢;exact qX hown (fun g q=>by
    have:g=g':=by simpa[Value.ownBlock,eq_comm] using q
    subst this;exact hgX)
  have hc6:=(((HC3.out.go HB4.out).go hb).store 2 (.slice (some ⟨g',0,none⟩) (N+1) k') (by simp[kS]));rw[←hw6] at hc6;exact HQ2.out.putR (vr':=.slice (some ⟨g',0,none⟩) (N+1) k') (p':=⟨p.d,p.most,p.R++[o],p.T.erase o,[],p.G,p.last,p.cl⟩) KA hc6
   (((HM3.out.below HB4.out).below hb).keep K6 (by simp;exact fun r=>m_1 r.symm)) (((HG3.out.below HB4.out).below hb).keep K6 (by simp;exact fun r=>m_2 r.symm))
   (ro.keep K6 (fun s r=>by simp at r;subst r;exact .inl (HQ2.out.inX _ nK))) HW.out.symm rfl HP.out
 clear L4 hb4 c1' c2 c4 cl3 n0 n1 nl f2;go_wp2_with fail;refine kE (S:=(fun w'=>w'.cell? ⟨pp,2,none⟩=some (.slice qr N kr)∧w'.cell? ⟨w.heap.size,0,none⟩=some (.int .i64 o.1)∧w'.cell? ⟨w.heap.size,1,none⟩=some (.int .i64 o.2))) 9 #[false,false,false,false,false,false,false,false,false] rfl kR kR (by(try dsimp only);go_keep) (fun hHeld=> ?_);simp only[aQ,aV];refine tk 0 ?_;refine tk 1 ?_;refine tk 2 ?_;refine tk 3 ?_;refine tk 4 ?_;refine tk 6 ?_;refine wpAnyH_ready (rs:=[5,7]) kR sI ?_;refine aR (jT rfl) (fun K hK=> ?_) (aR (jT rfl) (fun K hK=> ?_) aX)
 ·refine qY rf 67 #[.slice qr N kr] kR (.slice qr N N) _ (CL.out _) ?_
  refine hkO hK fun hHeld=> ?_
  clear hK K;refine wpAnyH_ready (rs:=[7]) kR sI ?_;refine aR (jT rfl) (fun K hK=> ?_) aX;go_simp
  refine hkO hK fun hHeld=> ?_
  clear hK K;refine wpAnyH_ready (rs:=[8]) kR sI ?_;refine aR (jT rfl) (fun K hK=> ?_) aX;refine sD (X:=X) (w:=(w4.alloc (.cells #[.int .i64 o.1,.int .i64 o.2] 40)).drew) EN.out rf (.tmp 87) (.tmp 89) rf rf rf ((HRC.out.below HB4.out).below jY) om (ob:=o) (ad:=⟨w4.heap.size,0,none⟩) (by rw[addr_add];exact NB0.out) (by rw[addr_add];exact NB1.out) ?_;intro g' k' w5 hown5 hb5;have B5:Below w4.heap.size w4 w5:=(show Below w4.heap.size w4 ((w4.alloc (.cells #[.int .i64 o.1,.int .i64 o.2] 40)).drew) from jY).trans (hb5.mono sI);have u2:=(B5.cell (p:=⟨pp,2,none⟩) yl).trans y2;have u0:=(B5.cell (p:=⟨w.heap.size,0,none⟩) zl).trans z0;have u1:=(B5.cell (p:=⟨w.heap.size,1,none⟩) zl).trans z1;have uf:=(B5.frozen (p:=⟨pp,2,none⟩) yl).trans yf;have ul:pp<w5.heap.size:=aC yl B5.size;refine hkO hK fun hHeld=> ?_
  clear hK K;refine wpAnyH_done kR ?_ _;simp only[oz,aP,aU];have HO5:=ah hown5;have HB5:=ah B5;clear hown5 hb5 B5 hHeld;go_wp2;go_ret;exact FIN.out w5 g' k' HB5.out HO5.out
 ·go_simp
  refine hkO hK fun hHeld=> ?_
  clear hK K;refine wpAnyH_ready (rs:=[5]) kR sI ?_;refine aR (jT rfl) (fun K hK=> ?_) aX;refine qY rf 67 #[.slice qr N kr] kR (.slice qr N N) _ (CL.out _) ?_;refine hkO hK fun hHeld=> ?_
  clear hK K;refine wpAnyH_ready (rs:=[8]) kR sI ?_;refine aR (jT rfl) (fun K hK=> ?_) aX;refine sD (X:=X) (w:=(w4.alloc (.cells #[.int .i64 o.1,.int .i64 o.2] 40)).drew) EN.out rf (.tmp 87) (.tmp 89) rf rf rf ((HRC.out.below HB4.out).below jY) om (ob:=o) (ad:=⟨w4.heap.size,0,none⟩) (by rw[addr_add];exact NB0.out) (by rw[addr_add];exact NB1.out) ?_;intro g' k' w5 hown5 hb5;have B5:Below w4.heap.size w4 w5:=(show Below w4.heap.size w4 ((w4.alloc (.cells #[.int .i64 o.1,.int .i64 o.2] 40)).drew) from jY).trans (hb5.mono sI);have u2:=(B5.cell (p:=⟨pp,2,none⟩) yl).trans y2;have u0:=(B5.cell (p:=⟨w.heap.size,0,none⟩) zl).trans z0;have u1:=(B5.cell (p:=⟨w.heap.size,1,none⟩) zl).trans z1;have uf:=(B5.frozen (p:=⟨pp,2,none⟩) yl).trans yf;have ul:pp<w5.heap.size:=aC yl B5.size;refine hkO hK fun hHeld=> ?_
  clear hK K;refine wpAnyH_done kR ?_ _;simp only[oz,aP,aU];have HO5:=ah hown5;have HB5:=ah B5;clear hown5 hb5 B5 hHeld;go_wp2;go_ret;exact FIN.out w5 g' k' HB5.out HO5.out
theorem yZ (k:Int) (o:Ob) (ho:qJ o) (hlast:p.last<4611686018427387904) (h:PoX E X F pp p w):
 Calls prog 15 #[.pointer (some ⟨pp,0,none⟩),.int .i64 k,.agg #[.int .i64 o.1,.int .i64 o.2]] w (EPost (kQ E pp).S X F (lZ e p k o).1 w (kM ev (lZ e p k o).2)):=by
 have hI:=h.2.give k o;revert hI;unfold lZ;by_cases hc:p.cl=true
 ·rw[if_pos hc];intro _;exact pgive_A k o h hc
 rw[if_neg hc];have hc':p.cl=false:=by simpa using hc
 by_cases hw:mG p k=false
 ·rw[if_pos hw];intro _;exact pgive_B k o h hc' hw
 rw[if_neg hw];have hw':mG p k=true:=by simpa using hw
 by_cases hT:o∈p.T
 ·rw[if_pos hT]
  unfold Cj;split
  ·rename_i t W' hW
   intro hI;exact pgive_D1 k o h hc' hw' ho hT hW hI hlast
  ·rename_i hW
   split
   ·rename_i hR
    intro hI;exact pgive_D2 k o h hc' hw' ho hT hW hR hI
   ·rename_i hR
    intro hI;refine pgive_D3 k o h hc' hw' ho hT hW hR hI ?_;have pe:=Im hT;obtain⟨l,hm,hs⟩:=h.2.mo;exact⟨h.2.inv,⟨l,hm,fun x hx=>hs x (pe.mem_iff.2 (ak _ hx))⟩,(aS.1 (pe.nodup_iff.1 h.2.nd)).2,h.2.m1,h.2.r,sI,List.Pairwise.nil,fun s q=>(by cases q),h.2.gn,h.2.gl,fun g hg q=>(by cases q),h.2.l0⟩
 ·rw[if_neg hT];intro _;exact pgive_C k o h hc' hw' ho hT
end
section
variable {pd pc pz e:Nat} {mn:Int} {O:List (List Int)} {ev:Nat→Addr} {w0:World} {E:sG pd pc pz e mn O ev w0} {X F:List Nat} {w:World} {pp:Nat} {p:Po}
theorem PoB.rowW {X:List Nat} {B:Nat} {w:World} {pp pd bt bg:Nat} {vr vw:Value} {p:Po} (h:PoB X B w pp pd bt bg vr vw p):nO [] w vw (ints p.W):=qA (by rw[Qv];exact h.ow) (fun x hx=>by cases hx)
theorem qO.lookG {w:World} {bg:Nat} {G:List (Int×Ob)} {t:Int} (h:qO prog 3 w bg (Dm G)) (ht:kW t):
 (Instr.lookup 118 (.map (some bg)) (.int .i64 t) true).run prog w= .ok (.tuple #[.agg #[.int .i64 ((pV G t).getD (0,0)).1,.int .i64 ((pV G t).getD (0,0)).2],.bool (pV G t).isSome]) w:=by
 rw[h.look uV iI (zeroObjV w) (keyOf_int_mk bB (wf64 ht)),Qu];unfold pV;cases(G.find? fun g=>g.1==t).map (·.2)<;>rfl
theorem qO.delG_ {w:World} {bg:Nat} {G:List (Int×Ob)} {t:Int} (h:qO prog 3 w bg (Dm G)) (ht:kW t) (ty:TypeId):
 ∃w',(Builtin.delete_ #[118,3] ty #[.map (some bg),.int .i64 t]).run prog w= .ok (.tuple #[]) w'∧qO prog 3 w' bg (Dm (Jg G t))∧w.mapTurned w' bg:=by
 obtain⟨w',h1,h2,h3⟩:=h.drop uV iI (keyOf_int_mk bB (wf64 ht)) ty;rw[del_map] at h2;exact⟨w',h1,h2,h3⟩
end
section
variable {pd pc pz e:Nat} {mn:Int} {O:List (List Int)} {ev:Nat→Addr} {w0:World} {E:sG pd pc pz e mn O ev w0} {X F:List Nat} {w w1:World} {pp:Nat} {p:Po}
theorem nN.post (h:nN E X F pp p w w1): ∃X1,PoX E X1 F pp p w1∧∀{p' r en w2},EPost (kQ E pp).S X1 F p' w1 r en w2→EPost (kQ E pp).S X F p' w r en w2:=by
 obtain⟨X1,h1,h2,h3,h4⟩:=h;refine⟨X1,h1,fun {p' r en w2} ⟨a,X2,k1,k2,k3,k4⟩=>⟨a,X2,k1,Io h3 h2 k2,fun x q=> ?_,fun x q=>k4 x (h4 x q)⟩⟩;have z:=h2.size;rcases k3 x q with r|r
 ·exact h3 x r
 ·exact .inr om
theorem WG (t:Int) (h:PoX E X F pp p w) (hc:p.cl=true):
 Calls prog 19 #[.pointer (some ⟨pp,0,none⟩),.int .i64 t] w (EPost (kQ E pp).S X F p w (kM ev 4)):=by
 have e4:kM ev 4= .iface 336 (.pointer (some (ev 4))):=rfl;rw[e4];have FIN:Hid (EPost (kQ E pp).S X F p w (.iface 336 (.pointer (some (ev 4)))) (.returned (.iface 336 (.pointer (some (ev 4))))) w):=⟨rfl,nN.refl h⟩;have HE:=h.err;obtain⟨⟨bt,bg,vr,vw,q⟩,hi⟩:=h;have c7:=q.b.c.gC 7;have cl:=q.b.c.lt;rw[hc] at c7;have gs:w.cell? ⟨2,0,none⟩=some (.iface 336 (.pointer (some (ev 4)))):=(HE.at 4 (by decide) (by decide)).1;have gl:2<w.heap.size:=(HE.at 4 (by decide) (by decide)).2;clear q hi HE hc e4;go_in
 go_wp2;go_ret;exact FIN.out
theorem WH (t:Int) (h:PoX E X F pp p w) (hc:p.cl=false) (ht:t∈p.W) (hP:nX e ⟨p.d,p.most,p.R,p.T,p.W.erase t,p.G,p.last,p.cl⟩):
 Calls prog 19 #[.pointer (some ⟨pp,0,none⟩),.int .i64 t] w (EPost (kQ E pp).S X F ⟨p.d,p.most,p.R,p.T,p.W.erase t,p.G,p.last,p.cl⟩ w .nilIface):=by
 obtain⟨⟨bt,bg,vr,vw,q⟩,hi⟩:=h;have HI:=ah hi;obtain⟨i,hx⟩: ∃i,JZ p.W t=some i:=by
  cases hx:JZ p.W t with
  |none=>exact absurd ht (qZ.1 hx)
  |some i=>exact⟨i,rfl⟩
 obtain⟨x1,x2,x3⟩:=sJ hx;have hil:=(au.1 x1).1;have IX:=yY vw p.W t w q.b.rowW (by have:=hi.w;omega);have ev':EG p.W t=(i:Int):=by unfold EG;rw[hx]
 rw[ev'] at IX;have HIX:=ah IX;have c7:=q.b.c.gC 7;have c4:=q.b.c.gC 4;have cl:=q.b.c.lt;have f4:=q.b.c.f 4 (by simp[kS]);rw[hc] at c7;have O4:=q.b.ow;obtain⟨gw,kw,rfl⟩: ∃gw kw,vw= .slice (some ⟨gw,0,none⟩) p.W.length kw:=by
  rcases O4.2 with⟨_,e2⟩|⟨g,cap,cur,e,_⟩
  ·omega
  ·exact⟨_,_,e⟩
 obtain⟨N,hN⟩:=eY p.W.length;have HN:=ah hN;have N8:N≤8:=by have:=hi.w;omega
 have iN:i<N:=om;have CL0:=Ck _ p.W w O4 om;rw[←hN] at CL0 c4 IX;have CL:=ah CL0;have HIX:=ah IX;have DL:Hid (∀W B g kk,W.ownsRow B 3 1 (.slice (some ⟨g,0,none⟩) N kk) N (ints p.W)→Calls prog 65 #[.slice (some ⟨g,0,none⟩) N kk,.int .i64 i,.int .i64 ((i:Int)+1)] W fun r w'=>r= .returned (.slice (some ⟨g,0,none⟩) (N-1) kk)∧w'.ownsRow B 3 1 (.slice (some ⟨g,0,none⟩) (N-1) kk) (N-1) (ints (p.W.erase t))∧Keep [g] W w'):=fun W B g kk ho=>by
  obtain⟨rest,r1,r2,r3,r4,r5,r6⟩:=Au ho;have:=Wx (B:=B) g kk i (ints p.W) rest W r1 r2 r5 r6 (by rw[r3];exact iN) (pO _) (by rw[r3];omega);rw[r3] at this;refine(show Calls prog 65 #[.slice (some ⟨g,0,none⟩) N kk,.int .i64 i,.int .i64 ((i:Int)+1)] W (AL B g kk i (ints p.W) W) from this).mono fun r w' ⟨a,b,c⟩=> ?_
  rw[r3] at a b;have ee:(ints p.W).eraseIdx i=ints (p.W.erase t):=by rw[x3];unfold ints;rw[dM,dM,dz,List.map_take,List.map_drop]
  rw[ee] at b;exact⟨a,b,c⟩
 have HQ:=ah q;have hle:(p.W.erase t).length=N-1:=by rw[iC ht,hN]
 have HLE:=ah hle;have FINP:=ah hP;have i0:(0:Int)≤(i:Int):=om;have i1: ¬((i:Int)<0):=om;clear hi hx x1 x2 x3 hil IX CL0 q O4 hP hN ev' hle ht hc;go_in
 go_wp2_with fail;refine HIX.out.mono ?_;rintro r w1 ⟨rfl,hw1⟩;obtain rfl:=hw1.symm;go_wp2_with fail;refine CL.out.mono ?_;rintro r w5 ⟨q5,k5,rfl,O5,hb5⟩;obtain⟨g5,rfl⟩: ∃g5,q5=some ⟨g5,0,none⟩:=by
  rcases O5.2 with⟨_,e2⟩|⟨g,cap,cur,e,_⟩
  ·omega
  ·exact⟨g,(fu e).1⟩
 have C5:=HQ.out.b.c.go hb5;have y4':=C5.gC 4;have yl':=C5.lt;have yf':=C5.f 4 (by simp[kS]);have g5l:=O5.lt g5 rfl;have HC5:=ah C5;have HB5:=ah hb5;clear c4 f4 cl C5 hb5 c7;go_wp2_with fail;refine(DL.out w5 _ g5 k5 O5).mono ?_;rintro r w6 ⟨rfl,O6,K6⟩;have pg:pp≠g5:=fun r=>by have:=HQ.out.b.c.lt;omega
 have C6:=HC5.out.keep K6 (by simpa using pg);have z4:=C6.gC 4;have zl:=C6.lt;have zf:=C6.f 4 (by simp[kS]);have HC6:=ah C6;have HK6:=ah K6;have HO6:=ah O6;clear y4' yl' yf' C6 K6 O6;go_wp2;go_ret;refine⟨rfl,?_⟩;obtain⟨w7,hw7⟩:=eY (w6.setCell ⟨pp,4,none⟩ (.slice (some ⟨g5,0,none⟩) (N-1) k5));rw[←hw7];have K7:Keep [pp] w6 w7:=by rw[hw7];exact(Keep.refl _ _).setCell (p:=⟨pp,4,none⟩) (.inl sI) _
 have z5:=HB5.out.size;have z6:=HK6.out.size;have z7:=K7.size;obtain⟨m_1,m_2,m_3,m_4,m_5,m_6⟩:=HQ.out.b.ne;have g5n: ∀s∈[g5],s∈pws pp bt bg (.slice (some ⟨gw,0,none⟩) p.W.length kw)∨w.heap.size≤s:=fun s r=>by simp at r;subst r;exact .inr om
 have KA:Keep (pws pp bt bg (.slice (some ⟨gw,0,none⟩) p.W.length kw)) w w7:=
  ((Keep.of HB5.out).trans HK6.out g5n).then (K7.mono (fun s r=>by simp at r;subst r;exact nK))
 have far: ∀y,y<w.heap.size→y∉[g5]:=fun y hy r=>by simp at r;omega
 have lt2:=fun y hy=>(HQ.out.b.lim y hy).2
 have lpp:=lt2 pp nK;have lbt:=lt2 bt nY;have lbg:=lt2 bg tC;refine HQ.out.putW (vw':=.slice (some ⟨g5,0,none⟩) (N-1) k5) (p':=⟨p.d,p.most,p.R,p.T,p.W.erase t,p.G,p.last,p.cl⟩) KA (fun y hy=> ?_) ?_ ?_ ?_ ?_ rfl rfl FINP.out
 ·have:y=g5:=by simpa[jS,Value.ownBlock,eq_comm] using hy
  subst this;exact .inr ⟨om,by have:=(HO6.out.lt y rfl).2;omega⟩
 ·rw[hw7]
  exact HC6.out.store 4 (.slice (some ⟨g5,0,none⟩) (N-1) k5) (by simp[kS])
 ·exact((HQ.out.b.t.below HB5.out).keep HK6.out (far bt om)).keep K7 (by simp;exact fun r=>m_1 r.symm)
 ·have:=jQ HO6.out K7 (fun s r t'=>by
   simp at r;subst r;have:s=g5:=by simpa[jS,Value.ownBlock,eq_comm] using t'
   exact pg this)
  rw[HLE.out];exact qB this (by have:=(E.bel HQ.out.s).size;omega)
 ·exact((HQ.out.b.g.below HB5.out).keep HK6.out (far bg om)).keep K7 (by simp;exact fun r=>m_2 r.symm)
theorem WJ (t:Int) (h:PoX E X F pp p w) (hc:p.cl=false) (ht:t∉p.W) (hf:kW t) (hg:pV p.G t=none):
 Calls prog 19 #[.pointer (some ⟨pp,0,none⟩),.int .i64 t] w (EPost (kQ E pp).S X F p w (kM ev 4)):=by
 have e4:kM ev 4= .iface 336 (.pointer (some (ev 4))):=rfl;rw[e4];have FIN:Hid (∀W,Below w.heap.size w W→EPost (kQ E pp).S X F p w (.iface 336 (.pointer (some (ev 4)))) (.returned (.iface 336 (.pointer (some (ev 4))))) W):=fun W b=>⟨rfl,nN.same h b⟩
 have HE:=h.err;obtain⟨⟨bt,bg,vr,vw,q⟩,hi⟩:=h;have c7:=q.b.c.gC 7;have c4:=q.b.c.gC 4;have c5:=q.b.c.gC 5;have cl:=q.b.c.lt;rw[hc] at c7;have IX:=yY vw p.W t w q.b.rowW (by have:=hi.w;omega);have ev':EG p.W t= -1:=by unfold EG;rw[qZ.2 ht]
 rw[ev'] at IX;have lk:=q.b.g.lookG hf;rw[hg] at lk;simp only[Option.getD_none,je] at lk;have gs:w.cell? ⟨2,0,none⟩=some (.iface 336 (.pointer (some (ev 4)))):=(HE.at 4 (by decide) (by decide)).1;have gl:2<w.heap.size:=(HE.at 4 (by decide) (by decide)).2;have hb1:Below w.heap.size w (w.alloc (.cells #[.int .i64 0,.int .i64 0] 40)):=jY;obtain⟨qw,kw,rfl⟩:=l6 q.b.ow;obtain⟨n,hn⟩:=eY p.W.length;rw[←hn] at c4 IX;have HIX:=ah IX;have HB:=ah hb1;have gs':=(HB.out.cell (p:=⟨2,0,none⟩) gl).trans gs;have gl':=aC gl HB.out.size;clear q hi HE hc e4 ev' hn IX hb1 ht hg hf gs gl;go_in
 go_wp2_with fail;refine HIX.out.mono ?_;rintro r w1 ⟨rfl,rfl⟩;go_wp2;go_ret;exact FIN.out _ (by first|exact HB.out|exact jY)
theorem WL (t:Int) (o:Ob) (h:PoX E X F pp p w) (hc:p.cl=false) (ht:t∉p.W) (hf:kW t) (hg:pV p.G t=some o) (hP:nX e (p.fetch t o)) (ho:qJ o) (hT:o∉p.T) (hlast:p.last<4611686018427387904):
 Calls prog 19 #[.pointer (some ⟨pp,0,none⟩),.int .i64 t] w (EPost (kQ E pp).S X F (lZ e (p.fetch t o) 0 o).1 w (kM ev (lZ e (p.fetch t o) 0 o).2)):=by
 have hx:=h.lim;obtain⟨⟨bt,bg,vr,vw,q⟩,hi⟩:=h;have c7:=q.b.c.gC 7;have c4:=q.b.c.gC 4;have c5:=q.b.c.gC 5;have cl:=q.b.c.lt;rw[hc] at c7;have IX:=yY vw p.W t w q.b.rowW (by have:=hi.w;omega);have ev':EG p.W t= -1:=by unfold EG;rw[qZ.2 ht]
 rw[ev'] at IX;have lk:=q.b.g.lookG hf;rw[hg] at lk;simp only[iA,jf] at lk;have nbx:w.heap.size∉pws pp bt bg vw:=fun r=>by
  have:=(hx _ (E.sU q.s _ (av _ r))).2;omega
 obtain⟨qw,kw,rfl⟩:=l6 q.b.ow;obtain⟨n,hn⟩:=eY p.W.length;rw[←hn] at c4 IX;have HIX:=ah IX;have hb3:Below w.heap.size w (w.alloc (bO o)):=by unfold bO;exact jY
 have q3:=q.go hb3;have L2:jR (w.alloc (bO o)) w.heap.size [.int .i64 o.1,.int .i64 o.2]:=jR.mk_ w [.int .i64 o.1,.int .i64 o.2] 40 rfl;obtain⟨W3,hW3⟩:=eX (w.alloc (bO o));rw[hW3] at hb3 q3 L2;obtain⟨w4,hrun4,M4,T4⟩:=q3.b.g.delG_ hf 0;obtain⟨m_1,m_2,m_3,m_4,m_5,m_6⟩:=q3.b.ne;have K4:Keep [bg] W3 w4:=mJ T4 (.inl sI);have C4:=q3.b.c.keep K4 (by simpa using m_2);have B4:=L2.keep K4 (by simp;exact fun r=>nbx (r▸tC));have TM4:=q3.b.t.keep K4 (by simpa using m_3);obtain⟨w5,hrun5,M5,T5⟩:=(TM4.keep (Keep.refl [] w4).drew sI).ins hi.Ip ho hT hi.Jh.1;have K5:Keep [bt] w4 w5:=(Keep.refl [bt] w4).drew.then (mJ T5 (.inl sI));have C5:=C4.keep K5 (by simpa using m_1);have B5:=B4.keep K5 (by simp;exact fun r=>nbx (r▸nY));have G5:=M4.keep K5 (by simpa using m_3.symm);have x5:=C4.gC 3;have xl:=C4.lt;have v0:=B4.gC 0;have v1:=B4.gC 1;have vl:=B4.lt;have y0:=B5.gC 0;have y1:=B5.gC 1;have yl:=B5.lt;have d5:=q3.b.c.gC 5;have dl:=q3.b.c.lt;have MV:nN E X F pp (p.fetch t o) w w5:=by
  have KA:Keep [pp,bt,bg] w w5:=((Keep.of hb3).then (K4.mono (fun s r=>by simp at r;subst r;simp))).then (K5.mono (fun s r=>by simp at r;subst r;simp));exact q.putR (vr':=vr) (p':=p.fetch t o) KA C5 M5 G5 (q.b.r.keep KA (fun s r=>by simp at r;exact .inl (q.inX _ (r.elim (fun r=>r▸nK) (fun r=>r.elim (fun r=>r▸nY) (fun r=>r▸tC)))))) rfl rfl hP
 obtain⟨X1,h1,hpost⟩:=MV.post;have GV:=ah (yZ 0 o ho (show(p.fetch t o).last<4611686018427387904 from hlast) h1);have HPOST:Hid (∀{p' r en w2},EPost (kQ E pp).S X1 F p' w5 r en w2→EPost (kQ E pp).S X F p' w r en w2):=hpost;obtain⟨ee,he⟩:=eX (kM ev (lZ e (p.fetch t o) 0 o).2);rw[he] at GV;rw[he];clear hc IX ht hg L2 C4 B4 C5 B5 M4 M5 G5 TM4 K4 K5 T4 T5 q3 q hi hb3 hf ho hT hP nbx m_1 m_2 m_3 m_4 m_5 m_6 hn hx MV h1 hpost ev' hlast he;go_in
 unfold bO at hW3;go_wp2_with fail;refine HIX.out.mono ?_;rintro r w1 ⟨rfl,rfl⟩;go_wp2_with fail;clear hW3;refine lJ 5 kR kR ?_;simp only[aQ,aV,aP,aU];repeat still_step
 refine wpStill_nil ?_;go_wp2_with fail;refine GV.out.mono ?_;intro r w2 hq;have hr:=hq.1;subst hr;go_wp2;go_ret;exact HPOST.out hq
theorem Cm (t:Int) (hf:kW t) (hlast:p.last<4611686018427387904) (h:PoX E X F pp p w):
 Calls prog 19 #[.pointer (some ⟨pp,0,none⟩),.int .i64 t] w (EPost (kQ E pp).S X F (oV e p t).1 w (kM ev (oV e p t).2)):=by
 have hI:=h.2.cancel t;have hR:=h.2.ready t;revert hI hR;unfold oV nS;by_cases hc:p.cl=true
 ·rw[if_pos hc];intro _ _;exact WG t h hc
 rw[if_neg hc,if_neg hc];have hc':p.cl=false:=by simpa using hc
 by_cases ht:t∈p.W
 ·rw[if_pos ht,if_pos ht];intro hI _;exact WH t h hc' ht hI
 rw[if_neg ht,if_neg ht];cases hg:pV p.G t with
 |none=>intro _ _;exact WJ t h hc' ht hf hg
 |some o=>
  intro _ hI;have hm:o∈p.G.map (·.2):=by
   unfold pV at hg;obtain⟨g,hg1,hg2⟩:=dh.1 hg;exact bC.2 ⟨g,dJ hg1,hg2⟩
  exact WL t o h hc' ht hf hg hI (h.2.fit o (aj _ (aj _ hm))) (h.2.fetch hg).2 hlast
end
