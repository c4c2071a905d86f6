/- Lemmas and contracts for the claim's last text: PTake, PClose. -/
import Derived.Test.YtehhldljdakgeaaGreatDoorQa01
import Derived.Test.YtehhldljdakgeaaGreatDoorQa30
set_option linter.unusedSimpArgs false
set_option linter.unusedVariables false
set_option maxHeartbeats 16000000
set_option maxRecDepth 100000
namespace Go.Proofs.YtehhldljdakgeaaGreatDoor
open Go.RowKit Go.Maps
attribute [local go_sem ↓] aJ aK
theorem UQ (b:Addr) (w:World):
 Calls Tryz.prog 59 #[.nilIface,.iface 336 (.pointer (some b))] w fun e w'=>e= .returned (.bool false)∧w=w':=by
 have heq:=run_eql_iface_nil_left (P:=Tryz.prog) (w:=w) 336 (.pointer (some b)) jd;go_enter Tryz.func59,Tryz.ntmps59;go_wp2;go_ret;exact⟨rfl,rfl⟩
section
variable {pd pc pz e:Nat} {mn:Int} {O:List (List Int)} {ev:Nat→Addr} {w0:World} {E:tu pd pc pz e mn O ev w0} {X F:List Nat} {w:World} {pp:Nat} {p:Po}
theorem PoX.err (h:PoX E X F pp p w):pY w0.heap.size ev w:=E.err.go h.bel
theorem PoX.ord (h:PoX E X F pp p w):qY O p.d.c.L.length:=by
 obtain⟨⟨bt,bg,vr,vw,q⟩,i⟩:=h;exact E.ord q.s
theorem pY.at {B:Nat} {ev:Nat→Addr} {w:World} (h:pY B ev w) (i:Nat) (h1:1≤i) (h2:i≤10):w.cell? ⟨errG i,0,none⟩=some (jW ev i)∧errG i<w.heap.size:=⟨h.cell i h1 h2,aC (h.glob i h1 h2) h.size⟩
def zO:Obj:=.cells #[.int .i64 0,.int .i64 0] 40
theorem mO.took (hO:qY O p.d.c.L.length) (h:mO e p) (k v:Int):mO e (p.atD (takeD mn O e p.d k v false).1):=by
 obtain⟨l,hm,hs⟩:=h.mo;have hI:=qI (mn:=mn) (O:=O) (k:=k) (v:=v) (u:=false) hO h.inv;rcases MoI.take (mn:=mn) (O:=O) hO h.inv hm k v false with⟨_,_,h2⟩|⟨_,h2⟩
 ·exact h.atD hI h2 fun x hx=>av _ (hs x hx)
 ·exact h.atD hI h2 hs
theorem ptake_A (k v:Int) (h:PoX E X F pp p w) (hc:p.cl=true):
 Calls Tryz.prog 13 #[.pointer (some ⟨pp,0,none⟩),.int .i64 k,.int .i64 v] w (EPost (jZ E pp).S X F p w (.tuple #[.agg #[.int .i64 0,.int .i64 0],jW ev 4])):=by
 have FIN:Hid (∀W,Below w.heap.size w W→EPost (jZ E pp).S X F p w (.tuple #[.agg #[.int .i64 0,.int .i64 0],jW ev 4]) (.returned (.tuple #[.agg #[.int .i64 0,.int .i64 0],jW ev 4])) W):=fun W b=>⟨rfl,mH.same h b⟩
 have b1:Below w.heap.size w (w.alloc zO):=by unfold zO;exact jK
 have HE:=h.err.go b1;obtain⟨⟨bt,bg,vr,vw,q⟩,hi⟩:=h.go b1;have c7:=q.b.c.gC 7;have cl:=q.b.c.lt;rw[hc] at c7;have gs:(w.alloc zO).cell? ⟨2,0,none⟩=some (jW ev 4):=HE.cell 4 (by decide) (by decide);have gl:2<(w.alloc zO).heap.size:=aC (HE.glob 4 (by decide) (by decide)) HE.size;have gn:2<w.heap.size:=by have:=HE.glob 4 (by decide) (by decide);have h2:=h.bel.size;exact aC this h2
 have LB:=ah (show jD (w.alloc zO) w.heap.size [.int .i64 0,.int .i64 0] from jD.mk_ w [.int .i64 0,.int .i64 0] 40 rfl);have m0:=LB.out.gC 0;have m1:=LB.out.gC 1;have f0:=LB.out.f 0 sI;have f1:=LB.out.f 1 sI;have ml:=LB.out.lt;have ne7: ¬(w.heap.size=2):=om;have ne7': ¬(2=w.heap.size):=om;have LF:=ah (LB.out.kH (.int .i64 0) (.int .i64 0));obtain⟨W1,hW1⟩:=eX (w.alloc zO);rw[hW1] at c7 cl gs gl m0 m1 f0 f1 ml LF b1;have HB:=ah b1;clear q hi h HE LB hc b1;go_enter jg,iY;unfold zO at hW1;go_wp2;clear hW1;go_region
 all_goals go_wp2
 all_goals
  have e0:=LF.out.gC 0;have e1:=LF.out.gC 1;exact bodyPost_ret (v:=.tuple #[.agg #[.int .i64 0,.int .i64 0],jW ev 4]) (by simp[e0,e1,results,gJ,go_sem]) rfl (FIN.out _ (HB.out.trans jK))
theorem ptake_B (k v:Int) (h:PoX E X F pp p w) (hc:p.cl=false) (hr:vY p k v=2):
 Calls Tryz.prog 13 #[.pointer (some ⟨pp,0,none⟩),.int .i64 k,.int .i64 v] w (EPost (jZ E pp).S X F p w (.tuple #[.agg #[.int .i64 0,.int .i64 0],jW ev 2])):=by
 have e2:jW ev 2= .iface 336 (.pointer (some (ev 2))):=rfl;rw[e2];have FIN:Hid (∀W,Below w.heap.size w W→EPost (jZ E pp).S X F p w (.tuple #[.agg #[.int .i64 0,.int .i64 0],.iface 336 (.pointer (some (ev 2)))]) (.returned (.tuple #[.agg #[.int .i64 0,.int .i64 0],.iface 336 (.pointer (some (ev 2)))])) W):=fun W b=>⟨rfl,mH.same h b⟩
 have b1:Below w.heap.size w (w.alloc zO):=by unfold zO;exact jK
 have RI:=vk k v (h.go b1);rw[hr,e2] at RI;have HRI:=ah RI;obtain⟨⟨bt,bg,vr,vw,q⟩,hi⟩:=h.go b1;have c7:=q.b.c.gC 7;have cl:=q.b.c.lt;rw[hc] at c7;have LB:=ah (show jD (w.alloc zO) w.heap.size [.int .i64 0,.int .i64 0] from jD.mk_ w [.int .i64 0,.int .i64 0] 40 rfl);obtain⟨W1,hW1⟩:=eX (w.alloc zO);rw[hW1] at c7 cl LB b1 HRI;have HB:=ah b1;clear q hi h hc b1 RI hr e2;go_enter jg,iY;unfold zO at hW1;go_wp2_with fail;clear hW1;refine HRI.out.mono ?_;rintro r w2 ⟨rfl,hb2⟩;have L2:=LB.out.go hb2;have m0:=L2.gC 0;have m1:=L2.gC 1;have f0:=L2.f 0 sI;have f1:=L2.f 1 sI;have ml:=L2.lt;have LF:=ah (L2.kH (.int .i64 0) (.int .i64 0));have HB2:=ah (HB.out.trans (hb2.mono HB.out.size));clear L2 hb2 c7 cl HRI;go_wp2;have e0:=LF.out.gC 0;have e1:=LF.out.gC 1;exact bodyPost_ret (v:=.tuple #[.agg #[.int .i64 0,.int .i64 0],.iface 336 (.pointer (some (ev 2)))]) (by simp[e0,e1,results,gJ,go_sem]) rfl (FIN.out _ (HB2.out.trans jK))
theorem ptake_C (k v:Int) (hlast:p.last<4611686018427387904) (h:PoX E X F pp p w) (hc:p.cl=false) (hr:vY p k v=0) (hw:0<p.W.length):
 Calls Tryz.prog 13 #[.pointer (some ⟨pp,0,none⟩),.int .i64 k,.int .i64 v] w (EPost (jZ E pp).S X F (lW p).1 w (.tuple #[.agg #[.int .i64 0,.int .i64 0],jW ev (lW p).2])):=by
 have R1:oQ (jZ E pp) X F w [w.heap.size] (w.heap.size::X) p (w.alloc zO):=(oQ.start (E:=jZ E pp) h).box zO;have P1:PoX E (w.heap.size::X) ([w.heap.size]++F) pp p (w.alloc zO):=R1.t;have RI:=vk k v P1;rw[hr,show jW ev 0= .nilIface from rfl] at RI;have HRI:=ah RI;have HR1:=ah R1;have WT:Hid (∀W,Below (w.alloc zO).heap.size (w.alloc zO) W→Calls Tryz.prog 58 #[.pointer (some ⟨pp,0,none⟩)] W (PPost E (w.heap.size::X) ([w.heap.size]++F) pp (lW p).1 W (jW ev (lW p).2))):=fun W b=>OG hlast (P1.go b)
 obtain⟨⟨bt,bg,vr,vw,q⟩,hi⟩:=P1;obtain⟨qw,kw,rfl⟩:=kI q.b.ow;have HC:=ah q.b.c;have c7:=HC.out.gC 7;have cl:=HC.out.lt;rw[hc] at c7;have LB:=ah (show jD (w.alloc zO) w.heap.size [.int .i64 0,.int .i64 0] from jD.mk_ w [.int .i64 0,.int .i64 0] 40 rfl);obtain⟨p',hp'⟩: ∃p',p'=lW p:=⟨_,rfl⟩;rw[←hp'] at WT ⊢;obtain⟨n,hn⟩:=eY p.W.length;have HN:=ah hn;rw[←hn] at hw;have d0:decide (0<n)=true:=decide_eq_true hw;obtain⟨W1,hW1⟩:=eX (w.alloc zO);rw[hW1] at c7 cl LB HRI HC WT HR1;clear q hi h hc RI hr R1 hp' hn;go_enter jg,iY;unfold zO at hW1;go_wp2_with fail;clear hW1;refine HRI.out.mono ?_;rintro r w2 ⟨rfl,hb2⟩;have C2:=HC.out.go hb2;have c4:=C2.gC 4;have cl2:=C2.lt;rw[←HN.out] at c4;have HB2:=ah hb2;clear c7 cl HRI C2 hb2;go_wp2_with fail;refine(WT.out w2 HB2.out).mono ?_;rintro r w3 hp;obtain⟨rfl',X3,R3,k3⟩:=(HR1.out.go HB2.out).act hp;obtain rfl:r= .returned (jW ev p'.2):=rfl';have L3:=oQ.loc (b:=w.heap.size) sI (LB.out.go HB2.out) k3;have m0:=L3.gC 0;have m1:=L3.gC 1;have f0:=L3.f 0 sI;have f1:=L3.f 1 sI;have ml:=L3.lt;have LF:=ah (L3.kH (.int .i64 0) (.int .i64 0));have HR3:=ah R3;clear L3 hp k3 R3 WT c4 cl2;go_wp2;have e0:=LF.out.gC 0;have e1:=LF.out.gC 1;refine bodyPost_ret (v:=.tuple #[.agg #[.int .i64 0,.int .i64 0],jW ev p'.2]) (by simp[e0,e1,results,gJ,go_sem]) rfl (HR3.out.wr (b:=w.heap.size) sI ?_).fin;exact((Keep.refl [w.heap.size] w3).setCell (p:=⟨w.heap.size,0,none⟩) (.inl sI) _).setCell (p:=⟨w.heap.size,1,none⟩) (.inl sI) _
theorem IG {e:Nat} {c:Ca} (h:tq e c) {o:Ob} (ho:o∈oM e c.C):pE o:=by
 have h1:=ob_one h ho;obtain⟨s,hs,k,hk,rfl⟩:=rE.1 ho;have h2:=h.rng hs;have h3:=h.zl;refine⟨?_,?_⟩
 ·show kL s.nd
  unfold kL;omega
 ·unfold kL;omega
theorem mO.fit (h:mO e p): ∀x∈p.obs,pE x:=fun x hx=>by
 obtain⟨l,hm,hs⟩:=h.mo;exact IG h.inv.c ((hm.iff x).2 (.inl (hs x hx)))
theorem mO.GZ (h:mO e p): ∀x∈p.T,pE x:=fun x hx=>h.fit x (aj _ (av _ hx))
theorem mO.few (h:mO e p):p.obs.length≤65536:=by
 obtain⟨l,hm,hs⟩:=h.mo;exact bW (xA h.nd fun x hx=>(hm.iff x).2 (.inl (hs x hx))) (nO h.inv.c)
theorem mO.H7 (h:mO e p):p.T.length≤65536∧p.G.length≤65536:=by
 have:=h.few;unfold Po.obs at this;simp at this;omega
theorem mO.ndT (h:mO e p):p.T.Nodup:=(bD.1 (bD.1 h.nd).2.1).1
theorem pW.ins {w:World} {bt:Nat} {T:List Ob} {o:Ob} (h:pW Tryz.prog 40 w bt (D9 T)) (hT: ∀x∈T,pE x) (ho:pE o) (hn:o∉T) (hl:T.length≤65536):
 ∃w',(Instr.mapUpdate 117 (.map (some bt)) (.agg #[.int .i64 o.1,.int .i64 o.2]) (.bool true)).run Tryz.prog w= .ok () w'∧pW Tryz.prog 40 w' bt (D9 (T++[o]))∧w.mapTurned w' bt:=by
 obtain⟨w',h1,h2,h3⟩:=h.put Ow ig (by unfold D9 maxLen;simp;omega) (val:=.bool true) (keyO ho);have e1:oq (D9 T) (kO o)=none:=by rw[Ox hT ho,if_neg hn]
 rw[Av e1] at h2;refine⟨w',h1,h2.perm ?_,h3⟩;unfold D9;simp only[dI,bP,dW];exact(jk (l₁:=[(kO o,Value.bool true)]) (l₂:=T.map fun o=>(kO o,Value.bool true)))
theorem ptake_D (k v:Int) (h:PoX E X F pp p w) (hc:p.cl=false) (hr:vY p k v=0) (hw:p.W=[]) {d':De} {o:Ob} (ht:takeD mn O e p.d k v false=(d',0,o)) (hP:mO e ⟨d',p.most,p.R,p.T++[o],p.W,p.G,p.last,p.cl⟩):
 Calls Tryz.prog 13 #[.pointer (some ⟨pp,0,none⟩),.int .i64 k,.int .i64 v] w (EPost (jZ E pp).S X F ⟨d',p.most,p.R,p.T++[o],p.W,p.G,p.last,p.cl⟩ w (.tuple #[.agg #[.int .i64 o.1,.int .i64 o.2],.nilIface])):=by
 have R1:oQ (jZ E pp) X F w [w.heap.size] (w.heap.size::X) p (w.alloc zO):=(oQ.start (E:=jZ E pp) h).box zO;have P1:PoX E (w.heap.size::X) ([w.heap.size]++F) pp p (w.alloc zO):=R1.t;have RI:=vk k v P1;rw[hr,show jW ev 0= .nilIface from rfl] at RI;have HRI:=ah RI;have HR1:=ah R1;have HP:=ah hP;have hT:=h.2.took (mn:=mn) h.ord k v;rw[ht] at hT;have TK:Hid (∀W,Below (w.alloc zO).heap.size (w.alloc zO) W→Calls Tryz.prog 23 #[.pointer (some ⟨pd,0,none⟩),.int .i64 k,.int .i64 v,.bool false] W (EPost (jZ E pp).S (w.heap.size::X) ([w.heap.size]++F) (p.atD d') W (.tuple #[.agg #[.int .i64 o.1,.int .i64 o.2],.nilIface]))):=fun W b=>by
  obtain⟨Z,z1,z2⟩:=(P1.go b).BK (d:=d') hT;have:=E.take k v false z1;rw[ht] at this;exact this.mono fun r w' hp=>z2 hp
 obtain⟨⟨bt,bg,vr,vw,q⟩,hi⟩:=P1;obtain⟨qw,kw,rfl⟩:=kI q.b.ow;have HC:=ah q.b.c;have c7:=HC.out.gC 7;have cl:=HC.out.lt;rw[hc] at c7;have LB:=ah (show jD (w.alloc zO) w.heap.size [.int .i64 0,.int .i64 0] from jD.mk_ w [.int .i64 0,.int .i64 0] 40 rfl);obtain⟨n,hn⟩:=eY p.W.length;have HN:=ah hn;rw[hw] at hn;obtain rfl:n=0:=hn;obtain⟨W1,hW1⟩:=eX (w.alloc zO);rw[hW1] at c7 cl LB HRI HC HR1 TK;clear q hi h RI hr R1 hP hT ht hw hc;go_enter jg,iY;unfold zO at hW1;go_wp2_with fail;clear hW1;refine HRI.out.mono ?_;rintro r w2 ⟨rfl,hb2⟩;have C2:=HC.out.go hb2;have c4:=C2.gC 4;have c0:=C2.gC 0;have cl2:=C2.lt;rw[←HN.out] at c4;have HB2:=ah hb2;clear c7 cl HRI C2 hb2;go_wp2_with fail;refine(TK.out w2 HB2.out).mono ?_;rintro r w3 hp;obtain⟨rfl',X3,R3,k3⟩:=(HR1.out.go HB2.out).act hp;obtain rfl:r= .returned (.tuple #[.agg #[.int .i64 o.1,.int .i64 o.2],.nilIface]):=rfl';have L3:=oQ.loc (b:=w.heap.size) sI (LB.out.go HB2.out) k3;clear hp k3 TK c4 c0 cl2;have z3:=L3.lt;obtain⟨w5,hw5⟩:=eX (w3.alloc (.cells #[.int .i64 o.1,.int .i64 o.2] 40));have R5:oQ (jZ E pp) X F w [w3.heap.size,w.heap.size] (w3.heap.size::X3) (p.atD d') w5:=by
  rw[←hw5];exact R3.box _
 have B5:Below w3.heap.size w3 w5:=by rw[←hw5];exact jK
 have N5:=jD.mk_ w3 [.int .i64 o.1,.int .i64 o.2] 40 rfl;rw[hw5] at N5;have L5:=L3.go B5;have HL5:=ah L5;have HN5:=ah N5;have P5:PoX E (w3.heap.size::X3) ([w3.heap.size,w.heap.size]++F) pp (p.atD d') w5:=R5.t;have E5:=P5.err;have HR5:=ah R5;have gs7:w5.cell? ⟨3,0,none⟩=some (.iface 336 (.pointer (some (ev 7)))):=(E5.at 7 (by decide) (by decide)).1;have gl7:3<w5.heap.size:=(E5.at 7 (by decide) (by decide)).2;have gs5:w5.cell? ⟨4,0,none⟩=some (.iface 336 (.pointer (some (ev 5)))):=(E5.at 5 (by decide) (by decide)).1;have gl5:4<w5.heap.size:=(E5.at 5 (by decide) (by decide)).2;have IS7:=ah (UQ (ev 7) w5);have IS5:=ah (UQ (ev 5) w5);obtain⟨⟨bt5,bg5,vr5,vw5,q5⟩,hi5⟩:=P5;obtain⟨qr,kr,rfl,_,hkr⟩:=q5.b.r.isSlice;have c2:=q5.b.c.gC 2;have c3:=q5.b.c.gC 3;have cl5:=q5.b.c.lt;have hrl:p.R.length≤16:=by have h1:=hi5.r;have h2:=hi5.m1.2;exact bW h1 h2
 obtain⟨m,hm⟩:=eY p.R.length;have HM:=ah hm;rw[show(p.atD d').R.length=p.R.length from rfl,←hm] at c2;rw[←hm] at hrl;have hwm:IntKind.i64.wrap ((m:Int)-1)=(m:Int)-1:=bB _ om;have HQ5:=ah q5;have x0:=N5.gC 0;have x1:=N5.gC 1;have xl:=N5.lt;have oT:o∉p.T:=by
  have:=HP.out.ndT;simp only at this;exact fun r=>(bD.1 this).2.2 o r o sI rfl
 have oF:pE o:=HP.out.GZ o sI;obtain⟨w6,hrun,M6,T6⟩:=(q5.b.t.keep (Keep.refl [] w5).drew sI).ins hi5.GZ oF oT hi5.H7.1;have HM6:=ah M6;have K6:Keep [bt5] w5 w6:=(Keep.refl [bt5] w5).drew.then (lM T6 (.inl sI));have nb1:w.heap.size≠bt5:=fun r=>q5.f w.heap.size sI (r▸mP)
 have nb2:w3.heap.size≠bt5:=fun r=>q5.f w3.heap.size sI (r▸mP)
 have L6:=L5.keep K6 (by simpa using nb1);have N6:=N5.keep K6 (by simpa using nb2);have m0:=L6.gC 0;have m1:=L6.gC 1;have f0:=L6.f 0 sI;have f1:=L6.f 1 sI;have ml:=L6.lt;have y0:=N6.gC 0;have y1:=N6.gC 1;have yl:=N6.lt;have LF:=ah (L6.kH (.int .i64 o.1) (.int .i64 o.2));have FIN:=ah (show mH E (w3.heap.size::X3) ([w3.heap.size,w.heap.size]++F) pp ⟨d',p.most,p.R,p.T++[o],p.W,p.G,p.last,p.cl⟩ w5 w6 from
  q5.putR (p':=⟨d',p.most,p.R,p.T++[o],p.W,p.G,p.last,p.cl⟩) (K6.mono (fun s r=>by simp at r;subst r;simp)) (q5.b.c.keep K6 (by simp;exact q5.b.ne.1)) M6 (q5.b.g.keep K6 (by simp;exact fun r=>q5.b.ne.2.2.1 r.symm)) (q5.b.r.keep K6 (fun s r=>by simp at r;subst r;exact .inl (q5.inX _ mP))) rfl rfl HP.out)
 clear q5 hi5 hm E5 R5 R3 HR1 L3 L5 N5 B5 M6 T6 oT oF K6 nb1 nb2 L6 N6;go_wp2_with fail;clear hw5;refine IS7.out.mono ?_;rintro r w6' ⟨rfl,rfl⟩;go_wp2_with fail;refine IS5.out.mono ?_;rintro r w6' ⟨rfl,rfl⟩;go_wp2_with fail;refine kX 5 kR kR ?_;simp only[aQ,aW,aP,aU];repeat still_step
 refine wpStill_nil ?_;go_wp2;have e0:=LF.out.gC 0;have e1:=LF.out.gC 1;obtain⟨_,X6,R6,_⟩:=HR5.out.act (r:=.nilIface) (en:=.returned .nilIface) ⟨rfl,FIN.out⟩;refine bodyPost_ret (v:=.tuple #[.agg #[.int .i64 o.1,.int .i64 o.2],.nilIface]) (by simp[e0,e1,results,gJ,go_sem]) rfl (R6.wr (b:=w.heap.size) sI ?_).fin;exact((Keep.refl [w.heap.size] w6).setCell (p:=⟨w.heap.size,0,none⟩) (.inl sI) _).setCell (p:=⟨w.heap.size,1,none⟩) (.inl sI) _
theorem ptake_E (k v:Int) (hlast:p.last<4611686018427387904) (h:PoX E X F pp p w) (hc:p.cl=false) (hr:vY p k v=0) (hw:p.W=[]) {d':De} {c:Nat} {o:Ob} (ht:takeD mn O e p.d k v false=(d',c,o)) (h57:c=5∨c=7) (hR:p.R=[]):
 Calls Tryz.prog 13 #[.pointer (some ⟨pp,0,none⟩),.int .i64 k,.int .i64 v] w (EPost (jZ E pp).S X F (lW (p.atD d')).1 w (.tuple #[.agg #[.int .i64 0,.int .i64 0],jW ev (lW (p.atD d')).2])):=by
 obtain⟨p',hp'⟩: ∃p',p'=lW (p.atD d'):=⟨_,rfl⟩;have HP':=ah hp';rw[←hp'];clear hp';have hev:jW ev c= .iface 336 (.pointer (some (ev c))):=by rcases h57 with rfl|rfl<;>rfl
 have R1:oQ (jZ E pp) X F w [w.heap.size] (w.heap.size::X) p (w.alloc zO):=(oQ.start (E:=jZ E pp) h).box zO;have P1:PoX E (w.heap.size::X) ([w.heap.size]++F) pp p (w.alloc zO):=R1.t;have RI:=vk k v P1;rw[hr,show jW ev 0= .nilIface from rfl] at RI;have HRI:=ah RI;have HR1:=ah R1;have hT:=h.2.took (mn:=mn) h.ord k v;rw[ht] at hT;have TK:Hid (∀W,Below (w.alloc zO).heap.size (w.alloc zO) W→Calls Tryz.prog 23 #[.pointer (some ⟨pd,0,none⟩),.int .i64 k,.int .i64 v,.bool false] W (EPost (jZ E pp).S (w.heap.size::X) ([w.heap.size]++F) (p.atD d') W (.tuple #[.agg #[.int .i64 o.1,.int .i64 o.2],.iface 336 (.pointer (some (ev c)))]))):=fun W b=>by
  obtain⟨Z,z1,z2⟩:=(P1.go b).BK (d:=d') hT;have:=E.take k v false z1;rw[ht,hev] at this;exact this.mono fun r w' hp=>z2 hp
 obtain⟨⟨bt,bg,vr,vw,q⟩,hi⟩:=P1;obtain⟨qw,kw,rfl⟩:=kI q.b.ow;have HC:=ah q.b.c;have c7:=HC.out.gC 7;have cl:=HC.out.lt;rw[hc] at c7;have LB:=ah (show jD (w.alloc zO) w.heap.size [.int .i64 0,.int .i64 0] from jD.mk_ w [.int .i64 0,.int .i64 0] 40 rfl);obtain⟨n,hn⟩:=eY p.W.length;have HN:=ah hn;rw[hw] at hn;obtain rfl:n=0:=hn;obtain⟨W1,hW1⟩:=eX (w.alloc zO);rw[hW1] at c7 cl LB HRI HC HR1 TK;clear q hi h RI hr R1 hT ht hw hc hev;go_enter jg,iY;unfold zO at hW1;go_wp2_with fail;clear hW1;refine HRI.out.mono ?_;rintro r w2 ⟨rfl,hb2⟩;have C2:=HC.out.go hb2;have c4:=C2.gC 4;have c0:=C2.gC 0;have cl2:=C2.lt;rw[←HN.out] at c4;have HB2:=ah hb2;clear c7 cl HRI C2 hb2;go_wp2_with fail;refine(TK.out w2 HB2.out).mono ?_;rintro r w3 hp;obtain⟨rfl',X3,R3,k3⟩:=(HR1.out.go HB2.out).act hp;obtain rfl:r= .returned (.tuple #[.agg #[.int .i64 o.1,.int .i64 o.2],.iface 336 (.pointer (some (ev c)))]):=rfl';have L3:=oQ.loc (b:=w.heap.size) sI (LB.out.go HB2.out) k3;clear hp k3 TK c4 c0 cl2;have z3:=L3.lt;obtain⟨w5,hw5⟩:=eX (w3.alloc (.cells #[.int .i64 o.1,.int .i64 o.2] 40));have R5:oQ (jZ E pp) X F w [w3.heap.size,w.heap.size] (w3.heap.size::X3) (p.atD d') w5:=by
  rw[←hw5];exact R3.box _
 have B5:Below w3.heap.size w3 w5:=by rw[←hw5];exact jK
 have N5:=jD.mk_ w3 [.int .i64 o.1,.int .i64 o.2] 40 rfl;rw[hw5] at N5;have L5:=L3.go B5;have HL5:=ah L5;have HN5:=ah N5;have P5:PoX E (w3.heap.size::X3) ([w3.heap.size,w.heap.size]++F) pp (p.atD d') w5:=R5.t;have E5:=P5.err;have HR5:=ah R5;have gs7:w5.cell? ⟨3,0,none⟩=some (.iface 336 (.pointer (some (ev 7)))):=(E5.at 7 (by decide) (by decide)).1;have gl7:3<w5.heap.size:=(E5.at 7 (by decide) (by decide)).2;have gs5:w5.cell? ⟨4,0,none⟩=some (.iface 336 (.pointer (some (ev 5)))):=(E5.at 5 (by decide) (by decide)).1;have gl5:4<w5.heap.size:=(E5.at 5 (by decide) (by decide)).2;have IS7:=ah (uU c 7 w5 E5 om om (by decide) (by decide));have IS5:=ah (uU c 5 w5 E5 om om (by decide) (by decide));obtain⟨⟨bt5,bg5,vr5,vw5,q5⟩,hi5⟩:=P5;obtain⟨qr,kr,rfl,_,hkr⟩:=q5.b.r.isSlice;have c2:=q5.b.c.gC 2;have c3:=q5.b.c.gC 3;have cl5:=q5.b.c.lt;have hrl:p.R.length≤16:=by have h1:=hi5.r;have h2:=hi5.m1.2;exact bW h1 h2
 obtain⟨m,hm⟩:=eY p.R.length;have HM:=ah hm;rw[show(p.atD d').R.length=p.R.length from rfl,←hm] at c2;rw[←hm] at hrl;have hwm:IntKind.i64.wrap ((m:Int)-1)=(m:Int)-1:=bB _ om;have WT:=ah (OG (p:=p.atD d') hlast R5.t);rw[hR] at hm;obtain rfl:m=0:=hm;rw[←HP'.out] at WT;clear q5 hi5 R5 R3 HR1 L3 L5 N5 B5 hR E5;go_wp2_with fail;clear hw5;refine IS7.out.mono ?_;rintro r w6' ⟨rfl,rfl⟩;rcases h57 with rfl|rfl;case' inl=>
  simp only[show decide ((5:Nat)=7)=false from rfl];go_wp2_with fail;refine IS5.out.mono ?_;rintro r w6' ⟨rfl,rfl⟩;simp only[show decide ((5:Nat)=5)=true from rfl];go_wp2_with fail
 case' inr=>
  simp only[show decide ((7:Nat)=7)=true from rfl];go_wp2_with fail
 all_goals
  refine WT.out.mono ?_;rintro r w6 hp;obtain⟨rfl',X6,R6,k6⟩:=HR5.out.act hp;obtain rfl:r= .returned (jW ev p'.2):=rfl';have L6:=oQ.loc (b:=w.heap.size) sI HL5.out k6;have m0:=L6.gC 0;have m1:=L6.gC 1;have f0:=L6.f 0 sI;have f1:=L6.f 1 sI;have ml:=L6.lt;have LF:=ah (L6.kH (.int .i64 0) (.int .i64 0));have HR6:=ah R6;clear L6 hp k6 R6;go_wp2;have e0:=LF.out.gC 0;have e1:=LF.out.gC 1;refine bodyPost_ret (v:=.tuple #[.agg #[.int .i64 0,.int .i64 0],jW ev p'.2]) (by simp[e0,e1,results,gJ,go_sem]) rfl (HR6.out.wr (b:=w.heap.size) sI ?_).fin;exact((Keep.refl [w.heap.size] w6).setCell (p:=⟨w.heap.size,0,none⟩) (.inl sI) _).setCell (p:=⟨w.heap.size,1,none⟩) (.inl sI) _
theorem ptake_F (k v:Int) (h:PoX E X F pp p w) (hc:p.cl=false) (hr:vY p k v=0) (hw:p.W=[]) {d':De} {c:Nat} {o:Ob} (ht:takeD mn O e p.d k v false=(d',c,o)) (h57:c=5∨c=7) {R':List Ob} {o':Ob} (hR:p.R=R'++[o']) (hP:mO e ⟨d',p.most,R',p.T++[o'],p.W,p.G,p.last,p.cl⟩):
 Calls Tryz.prog 13 #[.pointer (some ⟨pp,0,none⟩),.int .i64 k,.int .i64 v] w (EPost (jZ E pp).S X F ⟨d',p.most,R',p.T++[o'],p.W,p.G,p.last,p.cl⟩ w (.tuple #[.agg #[.int .i64 o'.1,.int .i64 o'.2],.nilIface])):=by
 have hev:jW ev c= .iface 336 (.pointer (some (ev c))):=by rcases h57 with rfl|rfl<;>rfl
 have R1:oQ (jZ E pp) X F w [w.heap.size] (w.heap.size::X) p (w.alloc zO):=(oQ.start (E:=jZ E pp) h).box zO;have P1:PoX E (w.heap.size::X) ([w.heap.size]++F) pp p (w.alloc zO):=R1.t;have RI:=vk k v P1;rw[hr,show jW ev 0= .nilIface from rfl] at RI;have HRI:=ah RI;have HR1:=ah R1;have HP:=ah hP;have HRR:=ah hR;have hT:=h.2.took (mn:=mn) h.ord k v;rw[ht] at hT;have TK:Hid (∀W,Below (w.alloc zO).heap.size (w.alloc zO) W→Calls Tryz.prog 23 #[.pointer (some ⟨pd,0,none⟩),.int .i64 k,.int .i64 v,.bool false] W (EPost (jZ E pp).S (w.heap.size::X) ([w.heap.size]++F) (p.atD d') W (.tuple #[.agg #[.int .i64 o.1,.int .i64 o.2],.iface 336 (.pointer (some (ev c)))]))):=fun W b=>by
  obtain⟨Z,z1,z2⟩:=(P1.go b).BK (d:=d') hT;have:=E.take k v false z1;rw[ht,hev] at this;exact this.mono fun r w' hp=>z2 hp
 obtain⟨⟨bt,bg,vr,vw,q⟩,hi⟩:=P1;obtain⟨qw,kw,rfl⟩:=kI q.b.ow;have HC:=ah q.b.c;have c7:=HC.out.gC 7;have cl:=HC.out.lt;rw[hc] at c7;have LB:=ah (show jD (w.alloc zO) w.heap.size [.int .i64 0,.int .i64 0] from jD.mk_ w [.int .i64 0,.int .i64 0] 40 rfl);obtain⟨n,hn⟩:=eY p.W.length;have HN:=ah hn;rw[hw] at hn;obtain rfl:n=0:=hn;obtain⟨W1,hW1⟩:=eX (w.alloc zO);rw[hW1] at c7 cl LB HRI HC HR1 TK;clear q hi h RI hr R1 hT ht hw hc hev hP hR;go_enter jg,iY;unfold zO at hW1;go_wp2_with fail;clear hW1;refine HRI.out.mono ?_;rintro r w2 ⟨rfl,hb2⟩;have C2:=HC.out.go hb2;have c4:=C2.gC 4;have c0:=C2.gC 0;have cl2:=C2.lt;rw[←HN.out] at c4;have HB2:=ah hb2;clear c7 cl HRI C2 hb2;go_wp2_with fail;refine(TK.out w2 HB2.out).mono ?_;rintro r w3 hp;obtain⟨rfl',X3,R3,k3⟩:=(HR1.out.go HB2.out).act hp;obtain rfl:r= .returned (.tuple #[.agg #[.int .i64 o.1,.int .i64 o.2],.iface 336 (.pointer (some (ev c)))]):=rfl';have L3:=oQ.loc (b:=w.heap.size) sI (LB.out.go HB2.out) k3;clear hp k3 TK c4 c0 cl2;have z3:=L3.lt;obtain⟨w5,hw5⟩:=eX (w3.alloc (.cells #[.int .i64 o.1,.int .i64 o.2] 40));have R5:oQ (jZ E pp) X F w [w3.heap.size,w.heap.size] (w3.heap.size::X3) (p.atD d') w5:=by
  rw[←hw5];exact R3.box _
 have B5:Below w3.heap.size w3 w5:=by rw[←hw5];exact jK
 have N5:=jD.mk_ w3 [.int .i64 o.1,.int .i64 o.2] 40 rfl;rw[hw5] at N5;have L5:=L3.go B5;have HL5:=ah L5;have HN5:=ah N5;have P5:PoX E (w3.heap.size::X3) ([w3.heap.size,w.heap.size]++F) pp (p.atD d') w5:=R5.t;have E5:=P5.err;have HR5:=ah R5;have gs7:w5.cell? ⟨3,0,none⟩=some (.iface 336 (.pointer (some (ev 7)))):=(E5.at 7 (by decide) (by decide)).1;have gl7:3<w5.heap.size:=(E5.at 7 (by decide) (by decide)).2;have gs5:w5.cell? ⟨4,0,none⟩=some (.iface 336 (.pointer (some (ev 5)))):=(E5.at 5 (by decide) (by decide)).1;have gl5:4<w5.heap.size:=(E5.at 5 (by decide) (by decide)).2;have IS7:=ah (uU c 7 w5 E5 om om (by decide) (by decide));have IS5:=ah (uU c 5 w5 E5 om om (by decide) (by decide));obtain⟨⟨bt5,bg5,vr5,vw5,q5⟩,hi5⟩:=P5;obtain⟨qr,kr,rfl,hcr,hkr⟩:=q5.b.r.isSlice;have c2:=q5.b.c.gC 2;have c3:=q5.b.c.gC 3;have cl5:=q5.b.c.lt;have hrl:p.R.length≤16:=by have h1:=hi5.r;have h2:=hi5.m1.2;exact bW h1 h2
 obtain⟨m,hm⟩:=eY p.R.length;have HM:=ah hm;rw[show(p.atD d').R.length=p.R.length from rfl,←hm] at c2;rw[←hm] at hrl;have hwm:IntKind.i64.wrap ((m:Int)-1)=(m:Int)-1:=bB _ om;have rl:m=R'.length+1:=by rw[hm,HRR.out];simp
 obtain⟨n',hn'⟩: ∃n',n'=R'.length:=⟨_,rfl⟩;have HN':=ah hn';rw[←hn'] at rl;subst rl;have hwm':IntKind.i64.wrap (((n'+1:Nat):Int)-1)=(n':Int):=by rw[hwm];omega
 have r5:lG (w3.heap.size::X3) w5 (.slice qr (n'+1) kr) (R'++[o']):=by
  have:=q5.b.r;rw[show(p.atD d').R=R'++[o'] from HRR.out] at this;rw[show(R'++[o']).length=n'+1 by rw[hn'];simp] at this;exact this
 obtain⟨rg,ro,rfl,rgx,rgl,t0,t1⟩:=r5.at (j:=n') (o:=o') (by rw[hn'];simp);have d9:decide ((n':Int)<0)=false:=decide_eq_false om;have KR:=ah hkr;have rcut:lG (w3.heap.size::X3) w5 (.slice (some ⟨rg,ro,none⟩) n' kr) R':=by
  obtain⟨p2,cap2,g1,g2⟩:=r5.cut n' (by rw[hn'];simp);obtain⟨g3,g4,g5⟩:=eH g1;subst g3 g5;rw[hn'] at g2 ⊢;simpa using g2
 have RCUT:=ah rcut;have oP:o'∉p.T:=by
  have:=HP.out.ndT;exact fun r=>(bD.1 this).2.2 o' r o' sI rfl
 have oF:pE o':=HP.out.GZ o' sI;have fb:w5.frozen? ⟨w3.heap.size,0,none⟩=false:=HN5.out.f 0 sI;have fb1:w5.frozen? ⟨w3.heap.size,1,none⟩=false:=HN5.out.f 1 sI;have fr:w5.frozen? ⟨pp,2,none⟩=false:=q5.b.c.f 2 (by simp[jT]);have nbp:w3.heap.size≠pp:=fun r=>q5.f w3.heap.size sI (r▸mG)
 have nbp': ¬(w3.heap.size=pp):=nbp;have nbp2: ¬(pp=w3.heap.size):=fun r=>nbp r.symm
 have nrg: ¬(w3.heap.size=rg):=fun r=>rgx (r▸aG ..)
 have nrg2: ¬(rg=w3.heap.size):=fun r=>nrg r.symm
 have nb0:w.heap.size≠pp:=fun r=>q5.f w.heap.size sI (r▸mG)
 obtain⟨w5b,hw5b⟩:=eX ((w5.setCell ⟨w3.heap.size,0,none⟩ (.int .i64 o'.1)).setCell ⟨w3.heap.size,1,none⟩ (.int .i64 o'.2));obtain⟨w6,hw6⟩:=eX (w5b.setCell ⟨pp,2,none⟩ (.slice (some ⟨rg,ro,none⟩) n' kr));have K5b:Keep [w3.heap.size] w5 w5b:=by rw[←hw5b];exact(((Keep.refl _ _).setCell (p:=⟨w3.heap.size,0,none⟩) (.inl sI) _).setCell (p:=⟨w3.heap.size,1,none⟩) (.inl sI) _)
 have K56:Keep [pp] w5b w6:=by rw[←hw6];exact(Keep.refl _ _).setCell (p:=⟨pp,2,none⟩) (.inl sI) _
 have R5b:oQ (jZ E pp) X F w [w3.heap.size,w.heap.size] (w3.heap.size::X3) (p.atD d') w5b:=R5.wr (b:=w3.heap.size) sI K5b;have q5b:PoT E (w3.heap.size::X3) ([w3.heap.size,w.heap.size]++F) pp bt5 bg5 (.slice (some ⟨rg,ro,none⟩) p.R.length kr) vw5 (p.atD d') w5b:=⟨E.other q5.s K5b (fun g t=>aj _ (by simp at t;subst t;simp)),q5.b.keep K5b (fun s t=>by simp at t;subst t;exact⟨q5.f _ sI,.inl (aG ..)⟩),q5.f⟩;have N5c:=HN5.out.kH (.int .i64 o'.1) (.int .i64 o'.2);rw[hw5b] at N5c;have C5b:=q5b.b.c;have C6:=C5b.store 2 (.slice (some ⟨rg,ro,none⟩) n' kr) (by simp[jT]);rw[hw6] at C6;have np6:pp∉[pp]→False:=fun r=>r sI
 have N6:=N5c.keep K56 (by simpa using nbp);have L6:=(HL5.out.keep K5b (by simp;omega)).keep K56 (by simpa using nb0);have nbt:bt5≠pp:=fun r=>q5.b.ne.1 r.symm
 have nbg:bg5≠pp:=fun r=>q5.b.ne.2.1 r.symm
 obtain⟨w7,hrun,M7,T7⟩:=((q5b.b.t.keep K56 (by simpa using nbt)).keep (Keep.refl [] w6).drew.drew sI).ins hi5.GZ oF oP hi5.H7.1;have K67:Keep [bt5] w6 w7:=(Keep.refl [bt5] w6).drew.drew.then (lM T7 (.inl sI));have nb1:w.heap.size≠bt5:=fun r=>q5.f w.heap.size sI (r▸mP)
 have nb2:w3.heap.size≠bt5:=fun r=>q5.f w3.heap.size sI (r▸mP)
 have L7:=L6.keep K67 (by simpa using nb1);have N7:=N6.keep K67 (by simpa using nb2);have m0:=L7.gC 0;have m1:=L7.gC 1;have f0:=L7.f 0 sI;have f1:=L7.f 1 sI;have ml:=L7.lt;have y0:=N7.gC 0;have y1:=N7.gC 1;have yl:=N7.lt;have u0:=N6.gC 0;have u1:=N6.gC 1;have ul:=N6.lt;have u3:=C6.gC 3;have ucl:=C6.lt;have LF:=ah (L7.kH (.int .i64 o'.1) (.int .i64 o'.2));have K57:Keep [pp,bt5,bg5] w5b w7:=(K56.mono (fun s r=>by simp at r;subst r;simp)).then (K67.mono (fun s r=>by simp at r;subst r;simp));have FIN:=ah (show mH E (w3.heap.size::X3) ([w3.heap.size,w.heap.size]++F) pp ⟨d',p.most,R',p.T++[o'],p.W,p.G,p.last,p.cl⟩ w5b w7 from
  q5b.putR (vr':=.slice (some ⟨rg,ro,none⟩) n' kr) (p':=⟨d',p.most,R',p.T++[o'],p.W,p.G,p.last,p.cl⟩) K57 (C6.keep K67 (by simp;exact fun r=>nbt r.symm)) M7 ((q5b.b.g.keep K56 (by simpa using nbg)).keep K67 (by simp;exact fun r=>q5.b.ne.2.2.1 r.symm))
   ((rcut.keep K5b (fun s r=>by simp at r;subst r;exact .inl (aG ..))).keep K57 (fun s r=>by
     simp at r;rcases r with rfl|rfl|rfl
     ·exact .inl (q5b.inX _ mG)
     ·exact .inl (q5b.inX _ mP)
     ·exact .inl (q5b.inX _ rz))) rfl rfl HP.out)
 have HR5b:=ah R5b;have x0:=HN5.out.gC 0;have x1:=HN5.out.gC 1;have xl:=HN5.out.lt;have n0:(0:Int)≤(n':Int):=om;have n1:(n':Int)<(n':Int)+1:=om;have n2:(n':Int)≤(kr:Int):=by
  have h1:p.R.length≤kr:=hcr;rw[HRR.out] at h1;simp at h1;omega
 have n3:(n':Int).toNat=n':=om;clear hcr q5 hi5 hm E5 R5 R3 HR1 L3 L5 N5 B5 M7 T7 oP oF K67 K57 K56 K5b R5b q5b N5c C5b C6 N6 L6 N7 L7 r5 rcut nb1 nb2 nbt nbg nb0 np6 hn' rgx;rw[←hw5b] at hw6;clear hw5b;go_wp2_with fail;clear hw5;refine IS7.out.mono ?_;rintro r w6' ⟨rfl,rfl⟩;rcases h57 with rfl|rfl;case' inl=>
  simp only[show decide ((5:Nat)=7)=false from rfl];go_wp2_with fail;refine IS5.out.mono ?_;rintro r w6' ⟨rfl,rfl⟩;simp only[show decide ((5:Nat)=5)=true from rfl];go_wp2_with fail
 case' inr=>
  simp only[show decide ((7:Nat)=7)=true from rfl];go_wp2_with fail
 all_goals
  refine BL (S:=(fun w'=>w'.cell? ⟨pp,2,none⟩=some (.slice (some ⟨rg,ro,none⟩) (n'+1) kr)∧w'.cell? ⟨rg,ro+n'*2,none⟩=some (.int .i64 o'.1)∧w'.cell? ⟨rg,ro+n'*2+1,none⟩=some (.int .i64 o'.2))) 17 #[false,false,false,false,false,false,false,false,false,false,false,false,false,false,false,false,false] rfl kR kR (by(try dsimp only);go_keep) (fun hHeld=> ?_);simp only[aQ,aW];refine tk 1 ?_;try simp only[Act.put,pA,pZ,pS]
  refine tk 2 ?_;try simp only[Act.put,pA,pZ,pS]
  refine tk 3 ?_;try simp only[Act.put,pA,pZ,pS]
  refine tk 4 ?_;try simp only[Act.put,pA,pZ,pS]
  refine tk 5 ?_;try simp only[Act.put,pA,pZ,pS]
  refine tk 6 ?_;try simp only[Act.put,pA,pZ,pS]
  refine tk 7 ?_;try simp only[Act.put,pA,pZ,pS]
  refine tk 8 ?_;try simp only[Act.put,pA,pZ,pS]
  refine tk 9 ?_;try simp only[Act.put,pA,pZ,pS]
  refine tk 10 ?_;try simp only[Act.put,pA,pZ,pS]
  refine tk 11 ?_;try simp only[Act.put,pA,pZ,pS]
  refine tk 12 ?_;try simp only[Act.put,pA,pZ,pS]
  refine tk 13 ?_;try simp only[Act.put,pA,pZ,pS]
  refine wpAnyH_ready (rs:=[0,14]) kR sI ?_;refine aR (jH rfl) (fun K hK=> ?_) (aR (jH rfl) (fun K hK=> ?_) aX)
  ·go_simp
   refine hK.out _ _ (by(try dsimp only);go_keep) (fun hHeld=> ?_);clear hK K;try simp only[Act.put,pA,pZ,pS]
   refine wpAnyH_ready (rs:=[14]) kR sI ?_;refine aR (jH rfl) (fun K hK=> ?_) aX;go_simp
   refine hK.out _ _ (by(try dsimp only);go_keep) (fun hHeld=> ?_);clear hK K;try simp only[Act.put,pA,pZ,pS]
   refine tk 15 ?_;try simp only[Act.put,pA,pZ,pS]
   refine tk 16 ?_;try simp only[Act.put,pA,pZ,pS]
   refine wpAnyH_done kR ?_ _;simp only[nX,aP,aU];clear hHeld;go_wp2_with fail;clear hw6;refine kX 5 kR kR ?_;simp only[aQ,aW,aP,aU];repeat still_step
   refine wpStill_nil ?_;go_wp2;have e0:=LF.out.gC 0;have e1:=LF.out.gC 1;obtain⟨_,X6,R6,_⟩:=HR5b.out.act (r:=.nilIface) (en:=.returned .nilIface) ⟨rfl,FIN.out⟩;refine bodyPost_ret (v:=.tuple #[.agg #[.int .i64 o'.1,.int .i64 o'.2],.nilIface]) (by simp[e0,e1,results,gJ,go_sem]) rfl (R6.wr (b:=w.heap.size) sI ?_).fin;exact((Keep.refl [w.heap.size] w7).setCell (p:=⟨w.heap.size,0,none⟩) (.inl sI) _).setCell (p:=⟨w.heap.size,1,none⟩) (.inl sI) _
  ·go_simp
   refine hK.out _ _ (by(try dsimp only);go_keep) (fun hHeld=> ?_);clear hK K;try simp only[Act.put,pA,pZ,pS]
   refine tk 0 ?_;try simp only[Act.put,pA,pZ,pS]
   refine tk 15 ?_;try simp only[Act.put,pA,pZ,pS]
   refine tk 16 ?_;try simp only[Act.put,pA,pZ,pS]
   refine wpAnyH_done kR ?_ _;simp only[nX,aP,aU];clear hHeld;go_wp2_with fail;clear hw6;refine kX 5 kR kR ?_;simp only[aQ,aW,aP,aU];repeat still_step
   refine wpStill_nil ?_;go_wp2;have e0:=LF.out.gC 0;have e1:=LF.out.gC 1;obtain⟨_,X6,R6,_⟩:=HR5b.out.act (r:=.nilIface) (en:=.returned .nilIface) ⟨rfl,FIN.out⟩;refine bodyPost_ret (v:=.tuple #[.agg #[.int .i64 o'.1,.int .i64 o'.2],.nilIface]) (by simp[e0,e1,results,gJ,go_sem]) rfl (R6.wr (b:=w.heap.size) sI ?_).fin;exact((Keep.refl [w.heap.size] w7).setCell (p:=⟨w.heap.size,0,none⟩) (.inl sI) _).setCell (p:=⟨w.heap.size,1,none⟩) (.inl sI) _
theorem vB (k v:Int) (hlast:p.last<4611686018427387904) (h:PoX E X F pp p w):
 Calls Tryz.prog 13 #[.pointer (some ⟨pp,0,none⟩),.int .i64 k,.int .i64 v] w (EPost (jZ E pp).S X F (jO mn O e p k v).1 w (.tuple #[obV (jO mn O e p k v).2.2,jW ev (jO mn O e p k v).2.1])):=by
 have hI:=h.2.take (mn:=mn) h.ord k v;revert hI;unfold jO;by_cases hc:p.cl=true
 ·rw[if_pos hc];intro _;exact ptake_A k v h hc
 rw[if_neg hc];have hc':p.cl=false:=by simpa using hc
 by_cases hr:lU p k=false∨um p v=false
 ·rw[if_pos hr];intro _
  exact ptake_B k v h hc' (by unfold vY;rw[if_neg];rintro⟨a,b⟩;rcases hr with q|q<;>simp_all)
 rw[if_neg hr];have hw:lU p k=true∧um p v=true:=by simp only[not_or,Bool.not_eq_false] at hr;exact hr
 have hr':vY p k v=0:=by unfold vY;rw[if_pos hw]
 by_cases hW:p.W≠[]
 ·rw[if_pos hW];intro _
  exact ptake_C k v hlast h hc' hr' (List.length_pos_iff.2 hW)
 rw[if_neg hW];have hW':p.W=[]:=by simpa using hW
 obtain⟨⟨d',c,o⟩,hd⟩: ∃r,r=takeD mn O e p.d k v false:=⟨_,rfl⟩;rw[←hd];simp only;have hk:=hw.1;have hn:=hw.2;unfold lU at hk;unfold um at hn;simp only[decide_eq_true_eq] at hk hn;have h57:=Iz (mn:=mn) (O:=O) (e:=e) (u:=false) hk.1 hk.2 hn.1 hn.2;rw[←hd] at h57;by_cases h0:c=0
 ·subst h0
  rw[if_pos rfl];intro hI;exact ptake_D k v h hc' hr' hW' hd.symm hI
 rw[if_neg h0];have h57':c=5∨c=7:=by simpa[h0] using h57
 cases hR:p.R.getLast? with
 |none=>
  intro _;exact ptake_E k v hlast h hc' hr' hW' hd.symm h57' (by simpa using hR)
 |some o'=>
  intro hI;obtain⟨hne,hx⟩:=gI.1 hR;have e2:p.R.dropLast=hne:=by rw[hx];simp
  simp only[e2] at hI ⊢;exact ptake_F k v h hc' hr' hW' hd.symm h57' hx hI
end
section
variable {pd pc pz e:Nat} {mn:Int} {O:List (List Int)} {ev:Nat→Addr} {w0:World} {E:tu pd pc pz e mn O ev w0} {X F:List Nat} {w w1 w':World} {pp bt bg:Nat} {vr vw:Value} {p p':Po}
theorem sS {e:Nat} {d:De} {l:List Ob} {i:Nat} {o:Ob} (h:l[i]?=some o):lH e d (l.take (i+1))=(kK e (lH e d (l.take i)) 0 o).1:=by
 unfold lH;rw[bT,h];simp[List.foldl_append]
end
end Go.Proofs.YtehhldljdakgeaaGreatDoor
