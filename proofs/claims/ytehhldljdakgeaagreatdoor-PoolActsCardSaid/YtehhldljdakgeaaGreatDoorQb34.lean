/- Lemmas. -/
import Derived.Test.YtehhldljdakgeaaGreatDoorQb01
import Derived.Test.YtehhldljdakgeaaGreatDoorQb29
import Derived.Test.YtehhldljdakgeaaGreatDoorQb33
set_option linter.unusedSimpArgs false
set_option linter.unusedVariables false
set_option maxHeartbeats 16000000
set_option maxRecDepth 100000
namespace Go.Proofs.YtehhldljdakgeaaGreatDoor
open Go.RowKit Go.Maps Go.Proofs.Tryz
attribute [local go_sem ↓] aJ aK
section
variable {pd pc pz e:Nat} {mn:Int} {O:List (List Int)} {ev:Nat→Addr} {w0:World} {E:sG pd pc pz e mn O ev w0} {X F:List Nat} {w:World} {pp:Nat} {p:Po}
theorem pready_A (t:Int) (h:PoX E X F pp p w) (hc:p.cl=true):
 Calls prog 17 #[.pointer (some ⟨pp,0,none⟩),.int .i64 t] w (EPost (kQ E pp).S X F p w (.tuple #[.agg #[.int .i64 0,.int .i64 0],.bool false,kM ev 4])):=by
 have FIN:Hid (∀W,Below w.heap.size w W→EPost (kQ E pp).S X F p w (.tuple #[.agg #[.int .i64 0,.int .i64 0],.bool false,kM ev 4]) (.returned (.tuple #[.agg #[.int .i64 0,.int .i64 0],.bool false,kM ev 4])) W):=fun W b=>⟨rfl,nN.same h b⟩
 have b1:Below w.heap.size w (w.alloc zO):=by unfold zO;exact jY
 have HE:=h.err.go b1;obtain⟨⟨bt,bg,vr,vw,q⟩,hi⟩:=h.go b1;have c7:=q.b.c.gC 7;have cl:=q.b.c.lt;rw[hc] at c7;have gs:(w.alloc zO).cell? ⟨2,0,none⟩=some (kM ev 4):=HE.cell 4 (by decide) (by decide);have gl:2<(w.alloc zO).heap.size:=aC (HE.glob 4 (by decide) (by decide)) HE.size;have gn:2<w.heap.size:=by have:=HE.glob 4 (by decide) (by decide);have h2:=h.bel.size;exact aC this h2
 have LB:=ah (show jR (w.alloc zO) w.heap.size [.int .i64 0,.int .i64 0] from jR.mk_ w [.int .i64 0,.int .i64 0] 40 rfl);have m0:=LB.out.gC 0;have m1:=LB.out.gC 1;have f0:=LB.out.f 0 sI;have f1:=LB.out.f 1 sI;have ml:=LB.out.lt;have ne7: ¬(w.heap.size=2):=om;have ne7': ¬(2=w.heap.size):=om;have LF:=ah (LB.out.lq (.int .i64 0) (.int .i64 0));obtain⟨W1,hW1⟩:=eX (w.alloc zO);rw[hW1] at c7 cl gs gl m0 m1 f0 f1 ml LF b1;have HB:=ah b1;clear q hi h HE LB hc b1;go_in
 unfold zO at hW1;go_wp2;clear hW1;go_region
 all_goals go_wp2
 all_goals
  have e0:=LF.out.gC 0;have e1:=LF.out.gC 1;exact bodyPost_ret (v:=.tuple #[.agg #[.int .i64 0,.int .i64 0],.bool false,kM ev 4]) (by simp[e0,e1,results,Tryz.results17,go_sem]) rfl (FIN.out _ (HB.out.trans jY))
theorem pready_B (t:Int) (h:PoX E X F pp p w) (hc:p.cl=false) (ht:t∈p.W):
 Calls prog 17 #[.pointer (some ⟨pp,0,none⟩),.int .i64 t] w (EPost (kQ E pp).S X F p w (.tuple #[.agg #[.int .i64 0,.int .i64 0],.bool false,.nilIface])):=by
 have FIN:Hid (∀W,Below w.heap.size w W→EPost (kQ E pp).S X F p w (.tuple #[.agg #[.int .i64 0,.int .i64 0],.bool false,.nilIface]) (.returned (.tuple #[.agg #[.int .i64 0,.int .i64 0],.bool false,.nilIface])) W):=fun W b=>⟨rfl,nN.same h b⟩
 have b1:Below w.heap.size w (w.alloc zO):=by unfold zO;exact jY
 obtain⟨⟨bt,bg,vr,vw,q⟩,hi⟩:=h.go b1;have c7:=q.b.c.gC 7;have c4:=q.b.c.gC 4;have cl:=q.b.c.lt;rw[hc] at c7;have CN:=xk vw p.W t _ q.b.rowW (by have:=hi.w;omega);rw[dQt ht] at CN;have LB:=ah (show jR (w.alloc zO) w.heap.size [.int .i64 0,.int .i64 0] from jR.mk_ w [.int .i64 0,.int .i64 0] 40 rfl);have m0:=LB.out.gC 0;have m1:=LB.out.gC 1;have f0:=LB.out.f 0 sI;have f1:=LB.out.f 1 sI;have ml:=LB.out.lt;have LF:=ah (LB.out.lq (.int .i64 0) (.int .i64 0));obtain⟨qw,kw,rfl⟩:=l6 q.b.ow;obtain⟨n,hn⟩:=eY p.W.length;rw[←hn] at c4 CN;obtain⟨W1,hW1⟩:=eX (w.alloc zO);rw[hW1] at c7 c4 cl m0 m1 f0 f1 ml LF b1 CN;have HB:=ah b1;have HCN:=ah CN;clear q hi h LB hc b1 ht hn CN;go_in
 unfold zO at hW1;go_wp2_with fail;clear hW1;refine HCN.out.mono ?_;rintro r w1 ⟨rfl,rfl⟩;go_wp2;have e0:=LF.out.gC 0;have e1:=LF.out.gC 1;exact bodyPost_ret (v:=.tuple #[.agg #[.int .i64 0,.int .i64 0],.bool false,.nilIface]) (by simp[e0,e1,results,Tryz.results17,go_sem]) rfl (FIN.out _ (HB.out.trans jY))
theorem pready_C (t:Int) (h:PoX E X F pp p w) (hc:p.cl=false) (ht:t∉p.W) (hf:kW t) (hg:pV p.G t=none):
 Calls prog 17 #[.pointer (some ⟨pp,0,none⟩),.int .i64 t] w (EPost (kQ E pp).S X F p w (.tuple #[.agg #[.int .i64 0,.int .i64 0],.bool false,kM ev 4])):=by
 have FIN:Hid (∀W,Below w.heap.size w W→EPost (kQ E pp).S X F p w (.tuple #[.agg #[.int .i64 0,.int .i64 0],.bool false,kM ev 4]) (.returned (.tuple #[.agg #[.int .i64 0,.int .i64 0],.bool false,kM ev 4])) W):=fun W b=>⟨rfl,nN.same h b⟩
 have b1:Below w.heap.size w (w.alloc zO):=by unfold zO;exact jY
 have HE:=h.err.go b1;obtain⟨⟨bt,bg,vr,vw,q⟩,hi⟩:=h.go b1;have c7:=q.b.c.gC 7;have c4:=q.b.c.gC 4;have c5:=q.b.c.gC 5;have cl:=q.b.c.lt;rw[hc] at c7;have CN:=xk vw p.W t _ q.b.rowW (by have:=hi.w;omega);rw[dQf ht] at CN;have lk:=q.b.g.lookG hf;rw[hg] at lk;simp only[Option.getD_none,je] at lk;have LB:=ah (show jR (w.alloc zO) w.heap.size [.int .i64 0,.int .i64 0] from jR.mk_ w [.int .i64 0,.int .i64 0] 40 rfl);have gn:2<w.heap.size:=by have:=HE.glob 4 (by decide) (by decide);have h2:=h.bel.size;exact aC this h2
 have ne7: ¬(w.heap.size=2):=om;have ne7': ¬(2=w.heap.size):=om;obtain⟨qw,kw,rfl⟩:=l6 q.b.ow;obtain⟨n,hn⟩:=eY p.W.length;rw[←hn] at c4 CN;obtain⟨W1,hW1⟩:=eX (w.alloc zO);rw[hW1] at c7 c4 c5 cl LB b1 CN lk HE;have HB:=ah b1;have HCN:=ah CN;have b2:Below W1.heap.size W1 (W1.alloc (.cells #[.int .i64 0,.int .i64 0] 40)):=jY;have HB2:=ah b2;have L2:=LB.out.go b2;have m0:=L2.gC 0;have m1:=L2.gC 1;have f0:=L2.f 0 sI;have f1:=L2.f 1 sI;have ml:=L2.lt;have LF:=ah (L2.lq (.int .i64 0) (.int .i64 0));have gs:(W1.alloc (.cells #[.int .i64 0,.int .i64 0] 40)).cell? ⟨2,0,none⟩=some (kM ev 4):=((HE.go b2).at 4 (by decide) (by decide)).1;have gl:2<(W1.alloc (.cells #[.int .i64 0,.int .i64 0] 40)).heap.size:=((HE.go b2).at 4 (by decide) (by decide)).2;clear q hi h LB hc b1 ht hn CN hg hf b2 L2 HE;go_in
 unfold zO at hW1;go_wp2_with fail;clear hW1;refine HCN.out.mono ?_;rintro r w1 ⟨rfl,rfl⟩;go_wp2;go_region
 all_goals go_wp2
 all_goals
  have hb:=HB.out;have hz:=hb.size;have e0:=LF.out.gC 0;have e1:=LF.out.gC 1;exact bodyPost_ret (v:=.tuple #[.agg #[.int .i64 0,.int .i64 0],.bool false,kM ev 4]) (by simp[e0,e1,results,Tryz.results17,go_sem]) rfl (FIN.out _ jY)
theorem pready_D (t:Int) (o:Ob) (h:PoX E X F pp p w) (hc:p.cl=false) (ht:t∉p.W) (hf:kW t) (hg:pV p.G t=some o) (hP:nX e (p.fetch t o)) (ho:qJ o) (hT:o∉p.T):
 Calls prog 17 #[.pointer (some ⟨pp,0,none⟩),.int .i64 t] w (EPost (kQ E pp).S X F (p.fetch t o) w (.tuple #[.agg #[.int .i64 o.1,.int .i64 o.2],.bool true,.nilIface])):=by
 have b1:Below w.heap.size w (w.alloc zO):=by unfold zO;exact jY
 have hx:=h.lim;obtain⟨⟨bt,bg,vr,vw,q0⟩,hi⟩:=h;have q:=q0.go b1;have c7:=q.b.c.gC 7;have c4:=q.b.c.gC 4;have c5:=q.b.c.gC 5;have c3:=q.b.c.gC 3;have cl:=q.b.c.lt;rw[hc] at c7;have CN:=xk vw p.W t _ q.b.rowW (by have:=hi.w;omega);rw[dQf ht] at CN;have lk:=q.b.g.lookG hf;rw[hg] at lk;simp only[iA,jf] at lk;have LB:=ah (show jR (w.alloc zO) w.heap.size [.int .i64 0,.int .i64 0] from jR.mk_ w [.int .i64 0,.int .i64 0] 40 rfl);have nbx:w.heap.size∉pws pp bt bg vw:=fun r=>by
  have:=(hx _ (E.sU q.s _ (av _ r))).2;omega
 obtain⟨qw,kw,rfl⟩:=l6 q.b.ow;obtain⟨n,hn⟩:=eY p.W.length;rw[←hn] at c4 CN;obtain⟨W1,hW1⟩:=eX (w.alloc zO);rw[hW1] at c7 c4 c5 c3 cl LB b1 CN lk q;have HB:=ah b1;have HCN:=ah CN;have hb3:Below W1.heap.size W1 (W1.alloc (bO o)):=by unfold bO;exact jY
 have q3:=q.go hb3;have L2:jR (W1.alloc (bO o)) W1.heap.size [.int .i64 o.1,.int .i64 o.2]:=jR.mk_ W1 [.int .i64 o.1,.int .i64 o.2] 40 rfl;have L1:=LB.out.go hb3;obtain⟨W3,hW3⟩:=eX (W1.alloc (bO o));rw[hW3] at hb3 q3 L2 L1;have hB3:=HB.out.trans (hb3.mono HB.out.size);obtain⟨b2,hb2⟩:=eX W1.heap.size;have nb2:b2∉pws pp bt bg (.slice qw p.W.length kw):=fun r=>by
  have:=(q.b.lim b2 r).2;omega
 have n12: ¬(w.heap.size=b2):=by have:=LB.out.lt;omega
 have n21: ¬(b2=w.heap.size):=om;obtain⟨w4,hrun4,M4,T4⟩:=q3.b.g.delG_ hf 0;obtain⟨m_1,m_2,m_3,m_4,m_5,m_6⟩:=q3.b.ne;have K4:Keep [bg] W3 w4:=mJ T4 (.inl sI);have C4:=q3.b.c.keep K4 (by simpa using m_2);have A4:=L1.keep K4 (by simp;exact fun r=>nbx (r▸tC));have B4:=L2.keep K4 (by simp;exact fun r=>nb2 (hb2▸r▸tC));rw[hb2] at B4;have TM4:=q3.b.t.keep K4 (by simpa using m_3);obtain⟨w5,hrun5,M5,T5⟩:=(TM4.keep (Keep.refl [] w4).drew sI).ins hi.Ip ho hT hi.Jh.1;have K5:Keep [bt] w4 w5:=(Keep.refl [bt] w4).drew.then (mJ T5 (.inl sI));have C5:=C4.keep K5 (by simpa using m_1);have A5:=A4.keep K5 (by simp;exact fun r=>nbx (r▸nY));have B5:=B4.keep K5 (by simp;exact fun r=>nb2 (r▸nY));have G5:=M4.keep K5 (by simpa using m_3.symm);have LF:=ah (A5.lq (.int .i64 o.1) (.int .i64 o.2));have x5:=C4.gC 3;have xl:=C4.lt;have v0:=B4.gC 0;have v1:=B4.gC 1;have vl:=B4.lt;have y0:=B5.gC 0;have y1:=B5.gC 1;have yl:=B5.lt;have z0:=A5.gC 0;have z1:=A5.gC 1;have zl:=A5.lt;have zf0:=A5.f 0 sI;have zf1:=A5.f 1 sI;have d5:=q3.b.c.gC 5;have dl:=q3.b.c.lt;have FIN:Hid (EPost (kQ E pp).S X F (p.fetch t o) w (.tuple #[.agg #[.int .i64 o.1,.int .i64 o.2],.bool true,.nilIface]) (.returned (.tuple #[.agg #[.int .i64 o.1,.int .i64 o.2],.bool true,.nilIface])) ((w5.setCell ⟨w.heap.size,0,none⟩ (.int .i64 o.1)).setCell ⟨w.heap.size,1,none⟩ (.int .i64 o.2))):=by
  obtain⟨W,hW⟩:=eY ((w5.setCell ⟨w.heap.size,0,none⟩ (.int .i64 o.1)).setCell ⟨w.heap.size,1,none⟩ (.int .i64 o.2));rw[←hW];have K6:Keep [w.heap.size] w5 W:=by rw[hW];exact((Keep.refl _ _).setCell (p:=⟨w.heap.size,0,none⟩) (.inl sI) _).setCell (p:=⟨w.heap.size,1,none⟩) (.inl sI) _
  have z3:=hB3.size;have z4:=K4.size;have z5:=K5.size;have KA:Keep [pp,bt,bg] w W:=(((Keep.of hB3).then (K4.mono (fun s r=>by simp at r;subst r;simp))).then (K5.mono (fun s r=>by simp at r;subst r;simp))).trans K6 (fun s r=>by simp at r;subst r;exact .inr (aI _));have KX: ∀x∈pws pp bt bg (.slice qw p.W.length kw),x∉[w.heap.size]:=fun x hx r=>by simp at r;exact nbx (r▸hx)
  exact⟨rfl,q0.putR (vr':=vr) (p':=p.fetch t o) KA (C5.keep K6 (KX _ nK)) (M5.keep K6 (KX _ nY)) (G5.keep K6 (KX _ tC)) (q0.b.r.keep KA (fun s r=>by simp at r;exact .inl (q0.inX _ (r.elim (fun r=>r▸nK) (fun r=>r.elim (fun r=>r▸nY) (fun r=>r▸tC)))))) rfl rfl hP⟩
 clear q0 LB hc b1 ht hg L1 L2 C4 A4 B4 C5 A5 B5 M4 M5 G5 TM4 K4 K5 T4 T5 q3 q hi hB3 hb3 HB hf ho hT hP nbx nb2 m_1 m_2 m_3 m_4 m_5 m_6 hn CN hx;go_in
 unfold zO at hW1;unfold bO at hW3;go_wp2_with fail;clear hW1;refine HCN.out.mono ?_;rintro r w1 ⟨rfl,rfl⟩;go_wp2_with fail;clear hW3;refine lJ 5 kR kR ?_;simp only[aQ,aV,aP,aU];repeat still_step
 refine wpStill_nil ?_;go_wp2;have e0:=LF.out.gC 0;have e1:=LF.out.gC 1;exact bodyPost_ret (v:=.tuple #[.agg #[.int .i64 o.1,.int .i64 o.2],.bool true,.nilIface]) (by simp[e0,e1,results,Tryz.results17,go_sem]) rfl FIN.out
theorem U8 (t:Int) (hf:kW t) (h:PoX E X F pp p w):
 Calls prog 17 #[.pointer (some ⟨pp,0,none⟩),.int .i64 t] w (EPost (kQ E pp).S X F (nS p t).1 w (.tuple #[.agg #[.int .i64 (nS p t).2.2.2.1,.int .i64 (nS p t).2.2.2.2],.bool (nS p t).2.2.1,kM ev (nS p t).2.1])):=by
 have hI:=h.2.ready t;revert hI;unfold nS;by_cases hc:p.cl=true
 ·rw[if_pos hc];intro _;exact pready_A t h hc
 rw[if_neg hc];have hc':p.cl=false:=by simpa using hc
 by_cases ht:t∈p.W
 ·rw[if_pos ht];intro _;exact pready_B t h hc' ht
 rw[if_neg ht];cases hg:pV p.G t with
 |none=>intro _;exact pready_C t h hc' ht hf hg
 |some o=>
  intro hI;have hm:o∈p.G.map (·.2):=by
   unfold pV at hg;obtain⟨g,hg1,hg2⟩:=dh.1 hg;exact bC.2 ⟨g,dJ hg1,hg2⟩
  have hnT:o∉p.T:=fun q=>(bF.1 (bF.1 h.2.nd).2.1).2.2 o q o hm rfl
  exact pready_D t o h hc' ht hf hg hI (h.2.fit o (aj _ (aj _ hm))) hnT
end
section
variable {pd pc pz e:Nat} {mn:Int} {O:List (List Int)} {ev:Nat→Addr} {w0:World} {E:sG pd pc pz e mn O ev w0} {X F:List Nat} {w w':World} {pp:Nat} {p:Po} {d:De}
theorem pnew_bad (v most:Int) (h:E.S X F d w) (hm:most<1∨16<most) (m1: -9223372036854775808≤most) (m2:most≤9223372036854775807):
 Calls prog 9 #[.pointer (some ⟨pd,0,none⟩),.int .i64 v,.int .i64 most] w (EPost E.S X F d w (.tuple #[.pointer none,kM ev 2])):=by
 have e2:kM ev 2= .iface 336 (.pointer (some (ev 2))):=rfl;rw[e2];have FIN:Hid (∀W,Below w.heap.size w W→EPost E.S X F d w (.tuple #[.pointer none,.iface 336 (.pointer (some (ev 2)))]) (.returned (.tuple #[.pointer none,.iface 336 (.pointer (some (ev 2)))])) W):=fun W b=>⟨rfl,X,E.go h b,Keep.of b,fun _ q=>.inl q,fun _ q=>q⟩
 have HE:=E.err.go (E.bel h);have gs:w.cell? ⟨1,0,none⟩=some (.iface 336 (.pointer (some (ev 2)))):=(HE.at 2 (by decide) (by decide)).1;have gl:1<w.heap.size:=(HE.at 2 (by decide) (by decide)).2;have hd:(most<1∧decide (most<1)=true)∨(¬most<1∧decide (most<1)=false∧decide ((16:Int)<most)=true):=by
  by_cases h0:most<1
  ·exact .inl ⟨h0,dQt h0⟩
  ·exact .inr ⟨h0,dQf h0,dQt om⟩
 clear h HE e2 hm;rcases hd with⟨h0,d0⟩|⟨h0,d0,d1⟩;all_goals
  go_in
  go_wp2_with fail;go_quiet (fail);go_wp2;go_ret2
  exact FIN.out _ (below_drewN (aL _ _) _)
section
variable {pp bt bg n:Nat} {L X' S:List Nat} {R:List Ob} {vr vr':Value} {wr w4 w5:World} {d':De} {r:Value} {en:Ending}
end
end
section
variable {B B':Nat} {S:List Nat} {w w':World} {pq pd:Nat} {vr vt vw vg vr' vt' vw' vg':Value} {p p':Po}
end
section
variable {pd e:Nat} {mn:Int} {O:List (List Int)} {w0:World} {E:vC pd e mn O w0} {X X0 F G Y L N:List Nat} {w w' W W':World} {pq b:Nat} {vr vt vw vg vr' vt' vw' vg':Value} {p p':Po} {d:De} {r:Value} {en:Ending}
theorem rO.Dn (h:rO E X F pq p w) (hi:nX e (p.atD d)): ∃Z,E.S X Z p.d w∧∀{r en w'},EPost E.S X Z d w r en w'→EPost (jX E pq).S X F (p.atD d) w r en w':=by
 obtain⟨⟨vr,vt,vw,vg,q⟩,i⟩:=h;refine⟨_,q.s,fun {r en w'} hp=> ?_⟩;obtain⟨h1,X',h2,h3,h4,h5⟩:=hp;exact⟨h1,X',⟨⟨vr,vt,vw,vg,h2,(q.b.atD d).keep h3 (fun s t u=>(jW.1 t).2 (av _ u)),q.f⟩,hi⟩,h3.mono (fun s t=>jW.2 ⟨(jW.1 t).1,fun u=>(jW.1 t).2 (aj _ u)⟩),h4,h5⟩
end
section
variable {σ τ σ' τ':Type} {w0 w1:World} {E:FEnv σ w0} {D:FEnv τ w1} {E':FEnv σ' w0} {D':FEnv τ' w1} {w W W':World} {L X F Y G X' Y':List Nat} {d:σ} {m:τ} {d':σ'} {m':τ'} {b:Nat} {r:Value} {en:Ending}
end
section
variable {w w' w3 W:World} {X L:List Nat} {ev:Nat→Addr} {pd pc pz gh pdm ghm pcm pm gN e pp pq:Nat} {mn lw hi:Int} {O:List (List Int)} {d m:De} {p:Po}
theorem IY {hE:qC w3.heap.size ev w3} (h:lT (VZ (pd:=pd) (pc:=pc) (pz:=pz) (e:=e) (mn:=mn) (O:=O) gh lw hi hE).dr.toFEnv (envR w3 pdm ghm pcm pm gN e mn lw hi O).toFEnv w L d d W):
 Calls prog 12 #[.pointer (some ⟨pd,0,none⟩),.pointer (some ⟨pdm,0,none⟩)] W fun r w'=>r= .returned (.int .i64 1)∧Below W.heap.size W w':=by
 obtain⟨X,F,Y,G,q⟩:=h;obtain⟨Z,H,hs,_⟩:=q.s;obtain⟨M,v,A,V,vp,U,hr⟩:=q.t;exact CQ hs hr.r
theorem Kn {hE:qC w3.heap.size ev w3} (h:lT (kQ (VZ (pd:=pd) (pc:=pc) (pz:=pz) (e:=e) (mn:=mn) (O:=O) gh lw hi hE).dr pp) (jX (envR w3 pdm ghm pcm pm gN e mn lw hi O) pq) w L p p W):
 Calls prog 12 #[.pointer (some ⟨pd,0,none⟩),.pointer (some ⟨pdm,0,none⟩)] W fun r w'=>r= .returned (.int .i64 1)∧Below W.heap.size W w':=by
 obtain⟨X,F,Y,G,q⟩:=h;obtain⟨⟨bt,bg,vr,vw,t⟩,_⟩:=q.s;obtain⟨Z,H,hs,_⟩:=t.s;obtain⟨⟨vr',vt',vw',vg',u⟩,_⟩:=q.t;obtain⟨M,v,A,V,vp,U,hr⟩:=u.s;exact CQ hs hr.r
end
theorem nX.tookU {mn:Int} {O:List (List Int)} {e:Nat} {p:Po} (hO:rM O p.d.c.L.length) (h:nX e p) (k v:Int) (u:Bool):nX e (p.atD (takeD mn O e p.d k v u).1):=by
 obtain⟨l,hm,hs⟩:=h.mo;have hI:=sw (mn:=mn) (O:=O) (k:=k) (v:=v) (u:=u) hO h.inv;rcases MoI.take (mn:=mn) (O:=O) hO h.inv hm k v u with⟨_,_,h2⟩|⟨_,h2⟩
 ·exact h.atD hI h2 fun x hx=>av _ (hs x hx)
 ·exact h.atD hI h2 hs
section
variable {pd e:Nat} {mn:Int} {O:List (List Int)} {w0:World} {E:vC pd e mn O w0} {X F:List Nat} {w:World} {pq:Nat} {p:Po}
theorem XC (t:Int) (h:rO E X F pq p w) (hc:p.cl=true):
 Calls prog 18 #[.pointer (some ⟨pq,0,none⟩),.int .i64 t] w (EPost (jX E pq).S X F p w (.tuple #[.agg #[.int .i64 0,.int .i64 0],.bool false,.int .i64 4])):=by
 have R1:pQ (jX E pq) X F w [w.heap.size] (w.heap.size::X) p (w.alloc zO):=(pQ.start (E:=jX E pq) h).box zO;have P1:rO E (w.heap.size::X) ([w.heap.size]++F) pq p (w.alloc zO):=R1.t;obtain⟨⟨vr,vt,vw,vg,q⟩,hi⟩:=id P1;have c7:=q.b.c.gC 7;have c4:=q.b.c.gC 4;have cl:=q.b.c.lt;rw[hc] at c7;have hw8:=hi.w;have IX0:=sN vw p.W t _ (rH q.b.ow) om;have LB:=(show jR (w.alloc zO) w.heap.size [.int .i64 0,.int .i64 0] from jR.mk_ w [.int .i64 0,.int .i64 0] 40 rfl);obtain⟨qw,kw,rfl⟩:=l6 q.b.ow;obtain⟨W1,hW1⟩:=eX (w.alloc zO);rw[hW1] at R1 P1 c7 c4 cl LB IX0;have HR1:=ah R1;have HLB:=ah LB;have HP1:=ah P1;have m0:=LB.gC 0;have m1:=LB.gC 1;have f0:=LB.f 0 sI;have f1:=LB.f 1 sI;have ml:=LB.lt;have LF:=ah (LB.lq (.int .i64 0) (.int .i64 0));clear q hi hc R1 P1 LB IX0 c4 HP1;go_in
 unfold zO at hW1;go_wp2;have e0:=LF.out.gC 0;have e1:=LF.out.gC 1;exact bodyPost_ret (v:=.tuple #[.agg #[.int .i64 0,.int .i64 0],.bool false,.int .i64 4]) (by simp[e0,e1,results,Tryz.results18,go_sem]) rfl (HR1.out.wr (b:=w.heap.size) sI ((Keep.refl _ _).Dg (.inl sI) _ _)).fin
theorem XD (t:Int) (h:rO E X F pq p w) (hc:p.cl=false) (ht:t∈p.W):
 Calls prog 18 #[.pointer (some ⟨pq,0,none⟩),.int .i64 t] w (EPost (jX E pq).S X F p w (.tuple #[.agg #[.int .i64 0,.int .i64 0],.bool false,.int .i64 0])):=by
 have R1:pQ (jX E pq) X F w [w.heap.size] (w.heap.size::X) p (w.alloc zO):=(pQ.start (E:=jX E pq) h).box zO;have P1:rO E (w.heap.size::X) ([w.heap.size]++F) pq p (w.alloc zO):=R1.t;obtain⟨⟨vr,vt,vw,vg,q⟩,hi⟩:=id P1;have c7:=q.b.c.gC 7;have c4:=q.b.c.gC 4;have cl:=q.b.c.lt;rw[hc] at c7;have hw8:=hi.w;have IX0:=sN vw p.W t _ (rH q.b.ow) om;have LB:=(show jR (w.alloc zO) w.heap.size [.int .i64 0,.int .i64 0] from jR.mk_ w [.int .i64 0,.int .i64 0] 40 rfl);obtain⟨qw,kw,rfl⟩:=l6 q.b.ow;obtain⟨W1,hW1⟩:=eX (w.alloc zO);rw[hW1] at R1 P1 c7 c4 cl LB IX0;have HR1:=ah R1;have HLB:=ah LB;have HP1:=ah P1;have m0:=LB.gC 0;have m1:=LB.gC 1;have f0:=LB.f 0 sI;have f1:=LB.f 1 sI;have ml:=LB.lt;have LF:=ah (LB.lq (.int .i64 0) (.int .i64 0));obtain⟨i,hi1,hi2,_⟩:=Xi ht;rw[hi1] at IX0;have IX:=ah IX0;have i0:(0:Int)≤(i:Int):=om;obtain⟨n,hn⟩:=eY p.W.length;rw[←hn] at IX c4;clear q hi hc R1 P1 LB IX0 HP1 hi1 hi2 ht hn;go_in
 unfold zO at hW1;go_wp2_with fail;clear hW1;refine IX.out.mono ?_;rintro r w2 ⟨rfl,hw2⟩;obtain rfl:=hw2.symm;go_wp2;have e0:=LF.out.gC 0;have e1:=LF.out.gC 1;exact bodyPost_ret (v:=.tuple #[.agg #[.int .i64 0,.int .i64 0],.bool false,.int .i64 0]) (by simp[e0,e1,results,Tryz.results18,go_sem]) rfl (HR1.out.wr (b:=w.heap.size) sI ((Keep.refl _ _).Dg (.inl sI) _ _)).fin
theorem XE (t:Int) (h:rO E X F pq p w) (hc:p.cl=false) (ht:t∉p.W) (hf:pV p.G t=none):
 Calls prog 18 #[.pointer (some ⟨pq,0,none⟩),.int .i64 t] w (EPost (jX E pq).S X F p w (.tuple #[.agg #[.int .i64 0,.int .i64 0],.bool false,.int .i64 4])):=by
 have R1:pQ (jX E pq) X F w [w.heap.size] (w.heap.size::X) p (w.alloc zO):=(pQ.start (E:=jX E pq) h).box zO;have P1:rO E (w.heap.size::X) ([w.heap.size]++F) pq p (w.alloc zO):=R1.t;obtain⟨⟨vr,vt,vw,vg,q⟩,hi⟩:=id P1;have c7:=q.b.c.gC 7;have c4:=q.b.c.gC 4;have cl:=q.b.c.lt;rw[hc] at c7;have hw8:=hi.w;have IX0:=sN vw p.W t _ (rH q.b.ow) om;have LB:=(show jR (w.alloc zO) w.heap.size [.int .i64 0,.int .i64 0] from jR.mk_ w [.int .i64 0,.int .i64 0] 40 rfl);obtain⟨qw,kw,rfl⟩:=l6 q.b.ow;obtain⟨W1,hW1⟩:=eX (w.alloc zO);rw[hW1] at R1 P1 c7 c4 cl LB IX0;have HR1:=ah R1;have HLB:=ah LB;have HP1:=ah P1;rw[AV ht] at IX0;have IX:=ah IX0;obtain⟨n,hn⟩:=eY p.W.length;rw[←hn] at IX c4;have FT:=ah (ES t P1 hf);clear q hi hc R1 P1 LB IX0 HP1 ht hn hf;go_in
 unfold zO at hW1;go_wp2_with fail;clear hW1;refine IX.out.mono ?_;rintro r w2 ⟨rfl,hw2⟩;obtain rfl:=hw2.symm;clear IX;go_wp2_with fail;refine FT.out.mono ?_;rintro r w3 hp;obtain⟨rfl',X3,R3,k3⟩:=HR1.out.act hp;obtain rfl:r= .returned (.tuple #[.agg #[.int .i64 0,.int .i64 0],.bool false]):=rfl';have L3:=pQ.loc (b:=w.heap.size) sI HLB.out k3;have z3:=L3.lt;obtain⟨w5,hw5⟩:=eX (w3.alloc (zO));obtain⟨b9,hb9⟩:=eX w3.heap.size;have R5:=R3.box (zO);have L5:=L3.go (show Below w3.heap.size w3 (w3.alloc (zO)) from by unfold zO;exact jY);have N5:jR (w3.alloc (zO)) w3.heap.size [.int .i64 0,.int .i64 0]:=jR.mk_ w3 [.int .i64 0,.int .i64 0] 40 rfl;rw[hw5] at R5 L5 N5;rw[hb9] at R5 N5 z3;have nf0:=N5.f 0 sI;have nf1:=N5.f 1 sI;obtain⟨w6,hw6⟩:=eX ((w5.setCell ⟨b9,0,none⟩ (.int .i64 0)).setCell ⟨b9,1,none⟩ (.int .i64 0));have K6:Keep [b9] w5 w6:=by rw[←hw6];exact(Keep.refl _ _).Dg (.inl sI) _ _
 have R6:=R5.wr (b:=b9) sI K6;have L6:=L5.keep K6 (by simp;omega);have HR6:=ah R6;have x0:=N5.gC 0;have x1:=N5.gC 1;have xl:=N5.lt;have m0:=L6.gC 0;have m1:=L6.gC 1;have f0:=L6.f 0 sI;have f1:=L6.f 1 sI;have ml:=L6.lt;have LF:=ah (L6.lq (.int .i64 0) (.int .i64 0));have NEB: ¬(b9=w.heap.size):=om;have NEB': ¬(w.heap.size=b9):=fun r=>NEB r.symm
 clear hp k3 FT R3 L3 R5 R6 L5 L6 N5 K6 c7 c4 cl;unfold zO at hw5;go_wp2_with fail;clear hw5 hb9 hw6;go_wp2;have e0:=LF.out.gC 0;have e1:=LF.out.gC 1;exact bodyPost_ret (v:=.tuple #[.agg #[.int .i64 0,.int .i64 0],.bool false,.int .i64 4]) (by simp[e0,e1,results,Tryz.results18,go_sem]) rfl (HR6.out.wr (b:=w.heap.size) sI ((Keep.refl _ _).Dg (.inl sI) _ _)).fin
theorem XG (t:Int) (h:rO E X F pq p w) (hc:p.cl=false) (ht:t∉p.W) {o:Ob} (hf:pV p.G t=some o):
 Calls prog 18 #[.pointer (some ⟨pq,0,none⟩),.int .i64 t] w (EPost (jX E pq).S X F (p.fetch t o) w (.tuple #[.agg #[.int .i64 o.1,.int .i64 o.2],.bool true,.int .i64 0])):=by
 have R1:pQ (jX E pq) X F w [w.heap.size] (w.heap.size::X) p (w.alloc zO):=(pQ.start (E:=jX E pq) h).box zO;have P1:rO E (w.heap.size::X) ([w.heap.size]++F) pq p (w.alloc zO):=R1.t;obtain⟨⟨vr,vt,vw,vg,q⟩,hi⟩:=id P1;have c7:=q.b.c.gC 7;have c4:=q.b.c.gC 4;have cl:=q.b.c.lt;rw[hc] at c7;have hw8:=hi.w;have IX0:=sN vw p.W t _ (rH q.b.ow) om;have LB:=(show jR (w.alloc zO) w.heap.size [.int .i64 0,.int .i64 0] from jR.mk_ w [.int .i64 0,.int .i64 0] 40 rfl);obtain⟨qw,kw,rfl⟩:=l6 q.b.ow;obtain⟨W1,hW1⟩:=eX (w.alloc zO);rw[hW1] at R1 P1 c7 c4 cl LB IX0;have HR1:=ah R1;have HLB:=ah LB;have HP1:=ah P1;rw[AV ht] at IX0;have IX:=ah IX0;obtain⟨n,hn⟩:=eY p.W.length;rw[←hn] at IX c4;have FT:=ah (Cv t P1 hf);clear q hi hc R1 P1 LB IX0 HP1 ht hn hf;go_in
 unfold zO at hW1;go_wp2_with fail;clear hW1;refine IX.out.mono ?_;rintro r w2 ⟨rfl,hw2⟩;obtain rfl:=hw2.symm;clear IX;go_wp2_with fail;refine FT.out.mono ?_;rintro r w3 hp;obtain⟨rfl',X3,R3,k3⟩:=HR1.out.act hp;obtain rfl:r= .returned (.tuple #[.agg #[.int .i64 o.1,.int .i64 o.2],.bool true]):=rfl';have L3:=pQ.loc (b:=w.heap.size) sI HLB.out k3;have z3:=L3.lt;obtain⟨w5,hw5⟩:=eX (w3.alloc (bO o));obtain⟨b9,hb9⟩:=eX w3.heap.size;have R5:=R3.box (bO o);have L5:=L3.go (show Below w3.heap.size w3 (w3.alloc (bO o)) from by unfold bO;exact jY);have N5:jR (w3.alloc (bO o)) w3.heap.size [.int .i64 o.1,.int .i64 o.2]:=jR.mk_ w3 [.int .i64 o.1,.int .i64 o.2] 40 rfl;rw[hw5] at R5 L5 N5;rw[hb9] at R5 N5 z3;have HR5:=ah R5;have HN5:=ah N5;have x0:=N5.gC 0;have x1:=N5.gC 1;have xl:=N5.lt;have m0:=L5.gC 0;have m1:=L5.gC 1;have f0:=L5.f 0 sI;have f1:=L5.f 1 sI;have ml:=L5.lt;have LF:=ah (L5.lq (.int .i64 o.1) (.int .i64 o.2));have NEB: ¬(b9=w.heap.size):=om;have NEB': ¬(w.heap.size=b9):=fun r=>NEB r.symm
 clear hp k3 FT R3 L3 R5 L5 N5 c7 c4 cl;unfold bO at hw5;go_wp2_with fail;clear hw5 hb9;go_wp2;have e0:=LF.out.gC 0;have e1:=LF.out.gC 1;exact bodyPost_ret (v:=.tuple #[.agg #[.int .i64 o.1,.int .i64 o.2],.bool true,.int .i64 0]) (by simp[e0,e1,results,Tryz.results18,go_sem]) rfl (HR5.out.wr (b:=w.heap.size) sI ((Keep.refl _ _).Dg (.inl sI) _ _)).fin
theorem Ko (t:Int) (h:rO E X F pq p w):
 Calls prog 18 #[.pointer (some ⟨pq,0,none⟩),.int .i64 t] w (EPost (jX E pq).S X F (nS p t).1 w (.tuple #[.agg #[.int .i64 (nS p t).2.2.2.1,.int .i64 (nS p t).2.2.2.2],.bool (nS p t).2.2.1,.int .i64 (nS p t).2.1])):=by
 unfold nS;by_cases hc:p.cl=true
 ·rw[if_pos hc];exact XC t h hc
 rw[if_neg hc];have hc':p.cl=false:=by simpa using hc
 by_cases ht:t∈p.W
 ·rw[if_pos ht];exact XD t h hc' ht
 rw[if_neg ht];cases hf:pV p.G t with
 |none=>exact XE t h hc' ht hf
 |some o=>exact XG t h hc' ht hf
theorem XH (h:rO E X F pq p w) (hc:p.cl=true):
 Calls prog 22 #[.pointer (some ⟨pq,0,none⟩)] w (EPost (jX E pq).S X F p w (.int .i64 4)):=by
 have FIN:=ah (h.same (r:=.int .i64 4));obtain⟨⟨vr,vt,vw,vg,q⟩,hi⟩:=id h;have c7:=q.b.c.gC 7;have cl:=q.b.c.lt;rw[hc] at c7;clear q hi hc h;go_in
 go_wp2;go_ret;exact FIN.out _ (aL _ _)
theorem XI (h:rO E X F pq p w) (hc:p.cl=false) (h0:0<p.T.length+p.W.length+p.G.length):
 Calls prog 22 #[.pointer (some ⟨pq,0,none⟩)] w (EPost (jX E pq).S X F p w (.int .i64 6)):=by
 have FIN:=ah (h.same (r:=.int .i64 6));obtain⟨⟨vr,vt,vw,vg,q⟩,hi⟩:=id h;have c7:=q.b.c.gC 7;have c3:=q.b.c.gC 3;have c4:=q.b.c.gC 4;have c5:=q.b.c.gC 5;have f7:=q.b.c.f 7 (by simp[jV]);have cl:=q.b.c.lt;rw[hc] at c7;obtain⟨qt,kt,rfl⟩:=l6 q.b.t;obtain⟨qw,kw,rfl⟩:=l6 q.b.ow;obtain⟨qg,kg,rfl⟩:=l6 q.b.g;obtain⟨a,ha⟩:=eY p.T.length;obtain⟨b,hb⟩:=eY p.W.length;obtain⟨c,hcc⟩:=eY p.G.length;rw[←ha,←hb,←hcc] at h0;rw[←ha] at c3;rw[←hb] at c4;rw[←hcc] at c5;clear q hi hc h ha hb hcc;have hs:(0<a∧decide ((0:Int)<(a:Int))=true)∨(¬0<a∧decide ((0:Int)<(a:Int))=false∧((0<b∧decide ((0:Int)<(b:Int))=true)∨(¬0<b∧decide ((0:Int)<(b:Int))=false∧0<c∧decide ((0:Int)<(c:Int))=true))):=by
  by_cases h1:0<a
  ·exact .inl ⟨h1,dQt om⟩
  ·refine .inr ⟨h1,dQf om,?_⟩
   by_cases h2:0<b
   ·exact .inl ⟨h2,dQt om⟩
   ·exact .inr ⟨h2,dQf om,om,dQt om⟩
 clear h0;rcases hs with⟨h1,d1⟩|⟨h1,d1,⟨h2,d2⟩|⟨h2,d2,h3,d3⟩⟩;all_goals
  go_in
  go_wp2;go_ret;exact FIN.out _ (aL _ _)
theorem XJ (h:rO E X F pq p w) (hc:p.cl=false) (h0: ¬0<p.T.length+p.W.length+p.G.length) (hP:nX e ⟨mF e p.d p.R,p.most,[],p.T,p.W,p.G,p.last,true⟩):
 Calls prog 22 #[.pointer (some ⟨pq,0,none⟩)] w (EPost (jX E pq).S X F ⟨mF e p.d p.R,p.most,[],p.T,p.W,p.G,p.last,true⟩ w (.int .i64 0)):=by
 have HP:=ah hP;obtain⟨⟨vr,vt,vw,vg,q⟩,hi⟩:=id h;have c7:=q.b.c.gC 7;have c3:=q.b.c.gC 3;have c4:=q.b.c.gC 4;have c5:=q.b.c.gC 5;have f7:=q.b.c.f 7 (by simp[jV]);have cl:=q.b.c.lt;rw[hc] at c7;obtain⟨qt,kt,rfl⟩:=l6 q.b.t;obtain⟨qw,kw,rfl⟩:=l6 q.b.ow;obtain⟨qg,kg,rfl⟩:=l6 q.b.g;obtain⟨qr,kr,rfl⟩:=l6 q.b.r;obtain⟨w1,hw1⟩:=eY (w.setCell ⟨pq,7,none⟩ (.bool true));obtain⟨⟨X1,R1⟩,K1⟩:=(pI.start q).cellP (p':=⟨mF e p.d (p.R.take 0),p.most,p.R,p.T,p.W,p.G,p.last,true⟩) hw1 rfl om rfl rfl rfl rfl rfl;have HR1:=ah R1;rw[show p.T.length=0 by omega] at c3;rw[show p.W.length=0 by omega] at c4;rw[show p.G.length=0 by omega] at c5;have N16:p.R.length≤16:=by have h1:=hi.r;have h2:=hi.m1.2;omega
 obtain⟨N,hN⟩:=eY p.R.length;have EN:=ah hN;rw[←hN] at N16;have ALL:Hid (p.R.take N=p.R):=by show _=_;rw[hN];simp
 clear q hi hc hP h0 hN R1 K1 h;go_in
 go_wp2_with fail;rw[←hw1];clear hw1 c7 c3 c4 c5 f7 cl;go_loopw [3] (fun iv wr=>∃(i:Nat) (X':List Nat),i≤N∧iv= .int .i64 i∧Hid (pI E pq X F w [] X' (.slice qr p.R.length kr) (.slice qt p.T.length kt) (.slice qw p.W.length kw) (.slice qg p.G.length kg) ⟨mF e p.d (p.R.take i),p.most,p.R,p.T,p.W,p.G,p.last,true⟩ wr)) (fun iv _=>N-(intOf iv).toNat);case atStart=>exact⟨0,X1,bq _,by go_num,HR1⟩
 case round=>
  obtain⟨i,X',hin,rfl,HR⟩:=hrel;have c2:=HR.out.at_.b.c.gC 2;have c0:=HR.out.at_.b.c.gC 0;have cl:=HR.out.at_.b.c.lt;have hOR:wr.ownsRow w0.heap.size 40 2 (.slice qr p.R.length kr) p.R.length (l8 p.R):=HR.out.at_.b.r;rw[←EN.out] at c2;by_cases hlt:i<N
  ·obtain⟨o,ho⟩: ∃o,p.R[i]?=some o:=⟨p.R[i]'(by rw[←EN.out];exact hlt),aA _⟩
   obtain⟨g,eg,g1,g2,gl,gb,y0,y1,_,_⟩:=AQ hOR ho;subst eg;have hli:(i:Int)<(N:Int):=om;have hl0:(0:Int)≤(i:Int):=om;have HR2:=ah (HR.out.go (show Below wr.heap.size wr wr.drew from(aL _ _).drew));have GV:=ah (E.give 0 o HR2.out.at_.s);have HO:=ah ho;clear ho g1 g2 gb hOR;go_wp2_with fail;refine lJ 11 kR kR ?_;simp only[aQ,aV,aP,aU];repeat still_step
   refine wpStill_nil ?_;go_wp2_with fail;refine GV.out.mono ?_;rintro r w5 hp;obtain⟨hr,X5,R5,_⟩:=HR2.out.dep hp;subst hr;have HR5:Hid (pI E pq X F w [] X5 (.slice (some ⟨g,0,none⟩) p.R.length kr) (.slice qt p.T.length kt) (.slice qw p.W.length kw) (.slice qg p.G.length kg) ⟨mF e p.d (p.R.take (i+1)),p.most,p.R,p.T,p.W,p.G,p.last,true⟩ w5):=by rw[uL HO.out];exact R5
   clear hp R5 GV y0 y1 c0 c2 cl gl HR HR2;go_wp2;go_roundw;case rel=>exact⟨i+1,X5,om,by go_num,HR5⟩
   case measure=>simp[intOf];omega
  ·obtain rfl:i=N:=by omega
   have f2:=HR.out.at_.b.c.f 2 (by simp[jV]);clear hOR;go_wp2;go_ret;obtain⟨⟨X7,R7⟩,_⟩:=HR.out.rowR (R':=[]) (q4:=none) (n:=0) (k4:=0) (B':=w0.heap.size) (Keep.refl _ _) (aI _) (aT _ _ _ _) rfl (fun y hy=>by cases hy) rfl;have hPP:=HP.out;rw[←ALL.out] at hPP ⊢;exact R7.fin hPP
theorem Kt (h:rO E X F pq p w):
 Calls prog 22 #[.pointer (some ⟨pq,0,none⟩)] w (EPost (jX E pq).S X F (wh e p).1 w (.int .i64 (wh e p).2)):=by
 have hI:=h.2.close;revert hI;unfold wh;by_cases hc:p.cl=true
 ·rw[if_pos hc];intro _;exact XH h hc
 rw[if_neg hc];have hc':p.cl=false:=by simpa using hc
 by_cases h0:0<p.T.length+p.W.length+p.G.length
 ·rw[if_pos h0];intro _;exact XI h hc' h0
 ·rw[if_neg h0];intro hI;exact XJ h hc' h0 hI
end
section
variable {p e n m:Nat} {d:De} {l R:List Ob} {q:Po} {o:Ob}
theorem EJ.hand (h:EJ p e n d):p8 d 0=some ([],[]):=by unfold p8;rw[if_neg om,h.hands];rfl
theorem EJ.max (h:EJ p e n d) (h1:1≤e) (h2:e≤64):n≤p*kL e:=by
 have a:=h.full.max;have b:=h.full.le;have c:d.c.C.length*kL e≤p*kL e:=iQ _ b;omega
theorem EJ.take (hO:rM [[0]] 1) (h:EJ p e n d) (hn:n<p*kL e) (u:Bool):
 (takeD 0 [[0]] e d 0 0 u).2.1=0∧EJ p e (n+1) (takeD 0 [[0]] e d 0 0 u).1:=by
 have e1:takeD 0 [[0]] e d 0 0 u=takeD 0 [[0]] e d 0 0 true:=by cases u;exact zN h.inv 0 0;rfl
 rw[e1];obtain⟨t1,t2,t3,t4,t5,t6,t7⟩:=Wq hO h.inv h.full hn h.hand h.pile;exact⟨t1,t7,t6,t4.trans h.hands,t5⟩
theorem EJ.stop (hO:rM [[0]] 1) (h:EJ p e n d) (hn:n=p*kL e) (u:Bool):takeD 0 [[0]] e d 0 0 u=(d,5,(0,0)):=by
 have e1:takeD 0 [[0]] e d 0 0 u=takeD 0 [[0]] e d 0 0 true:=by cases u;exact zN h.inv 0 0;rfl
 rw[e1];have ld:(ni ([],[]) d.P).1.1.getLast?=none:=by rw[h.pile];rfl
 have hs:=(qV.stop (mn:=0) (O:=[[0]]) (hn▸h.full) hO).1;rw[o8 h.hand ld,hs]
theorem EJ.right (h:EJ p e n q.d):mG q 0=true∧vQ q 0=true:=by
 obtain⟨x,hx,_⟩:=h.full.one;unfold mG vQ;rw[h.hands,hx];exact⟨by decide,sI⟩
theorem TL.take {r:Nat} {out:List Ob} (hO:rM [[0]] 1) (h:TL p e r out q) (hn:out.length<p*kL e):
 (kI 0 [[0]] e q 0 0).2.1=0∧TL p e r (out++[(kI 0 [[0]] e q 0 0).2.2]) (kI 0 [[0]] e q 0 0).1∧(kI 0 [[0]] e q 0 0).1.most=q.most:=by
 obtain⟨r1,r2⟩:=h.d.right;have e1:=h.d.inv.c.e1;have e2:=h.d.inv.c.e2;have hm:=h.d.max e1 e2;have ht:q.T.length=out.length:=by rw[h.t]
 unfold kI;rw[if_neg (by rw[h.cl];simp),if_neg (by rw[r1,r2];simp),if_neg (by rw[h.w];simp)];by_cases hf:q.R.length+q.T.length<p*kL e
 ·obtain⟨t1,t2⟩:=h.d.take hO hf false
  rw[if_pos t1];refine⟨rfl,⟨?_,by simp only[h.t],⟨h.r.1,.inl (h.r.2.resolve_right om)⟩,h.w,h.g,h.la,h.cl⟩,rfl⟩;simp only[aW,cB];rw[show q.R.length+(q.T.length+1)=q.R.length+q.T.length+1 by omega];exact t2
 ·have hs:=h.d.stop hO om false
  rw[hs];rw[if_neg sI];obtain⟨R',o,hR⟩: ∃R' o,q.R=R'++[o]:=by
   rcases dI q.R with hR|⟨R',o,hR⟩
   ·rw[hR] at hf;simp at hf;omega
   ·exact⟨R',o,by simpa using hR⟩
  have hg:q.R.getLast?=some o:=by rw[hR];simp
  have hl:q.R.length=R'.length+1:=by rw[hR];simp
  simp only[hg];have hd:q.R.dropLast=R':=by rw[hR];simp
  rw[hd];refine⟨trivial,⟨?_,by simp only[h.t],⟨by have:=h.r.1;simp only;omega,.inr ?_⟩,h.w,h.g,h.la,h.cl⟩,trivial⟩
  ·simp only[aW,cB]
   rw[show R'.length+(q.T.length+1)=q.R.length+q.T.length by omega];exact h.d
  ·simp only[aW,cB];omega
theorem Gn (a n:Nat):(upTo a n).length=n:=by simp[upTo]
theorem XK (a n:Nat):upTo a (n+1)=upTo a n++[((a+n+1:Nat):Int)]:=by simp[upTo,jJ]
theorem XL (a n:Nat):upTo a (n+1)=((a+1:Nat):Int)::upTo (a+1) n:=by
 unfold upTo;rw[List.range_succ_eq_map];simp only[bH,eH];congr 1
 apply fq;intro i _;simp only[Function.comp];omega
theorem upTo_mem {a n:Nat} {x:Int} (h:x∈upTo a n):(a:Int)+1≤x:=by
 unfold upTo at h;obtain⟨i,_,rfl⟩:=bC.1 h;omega
theorem TL.full {r:Nat} {out:List Ob} (h:TL p e r out q) (hn:out.length=p*kL e):Dq p e out 0 0 q:=by
 have hm:=h.d.max h.d.inv.c.e1 h.d.inv.c.e2;have ht:q.T.length=out.length:=by rw[h.t]
 have hR:q.R=[]:=bM.1 om;have hd:=h.d;rw[show q.R.length+q.T.length=p*kL e by omega] at hd;exact⟨hd,fun x hx=>by rw[h.t];exact hx,hR,by rw[h.w];rfl,h.g,by rw[h.la];rfl,h.cl⟩
theorem Dq.wait {out:List Ob} {k:Nat} (hO:rM [[0]] 1) (h:Dq p e out 0 k q) (hk:k<8):
 (kI 0 [[0]] e q 0 0).2.1=8∧Dq p e out 0 (k+1) (kI 0 [[0]] e q 0 0).1:=by
 obtain⟨r1,r2⟩:=h.d.right;have hs:=h.d.stop hO rfl false;have key: ∀q',Dq p e out 0 k q'→(mY q').2=8∧Dq p e out 0 (k+1) (mY q').1:=fun q' hq=>by
  unfold mY;rw[if_neg (by rw[hq.w,Gn];omega)];refine⟨rfl,hq.d,hq.t,hq.r,?_,hq.g,?_,hq.cl⟩
  ·rw[XK,←hq.w];simp only;rw[hq.la];simp
  ·simp only;rw[hq.la];simp
 unfold kI;rw[if_neg (by rw[h.cl];simp),if_neg (by rw[r1,r2];simp)];by_cases hw:q.W≠[]
 ·rw[if_pos hw];exact key q h
 ·rw[if_neg hw,hs,if_neg sI,h.r]
  simp only[List.getLast?_nil];exact key (q.atD q.d) h
theorem Dq.give {out:List Ob} {s k:Nat} (h:Dq p e out s (k+1) q) (ho:o∈out):
 (lZ e q 0 o).2=0∧(lZ e q 0 o).1.last=q.last∧(lZ e q 0 o).1.W=upTo (s+1) k∧(nS (lZ e q 0 o).1 ((s:Int)+1)).2=(0,true,o)∧Dq p e out (s+1) k (nS (lZ e q 0 o).1 ((s:Int)+1)).1:=by
 obtain⟨r1,r2⟩:=h.d.right;have hw:=h.w;rw[XL] at hw;have e1:lZ e q 0 o=(⟨q.d,q.most,q.R,q.T.erase o,upTo (s+1) k,q.G++[(((s+1:Nat):Int),o)],q.last,q.cl⟩,0):=by
  unfold lZ;rw[if_neg (by rw[h.cl];simp),if_neg (by rw[r1];simp),if_pos (h.t o ho)];unfold Cj;rw[hw]
 rw[e1];have es:(s:Int)+1=((s+1:Nat):Int):=om;have e2:nS ⟨q.d,q.most,q.R,q.T.erase o,upTo (s+1) k,q.G++[(((s+1:Nat):Int),o)],q.last,q.cl⟩ ((s:Int)+1)=(⟨q.d,q.most,q.R,q.T.erase o++[o],upTo (s+1) k,[],q.last,q.cl⟩,0,true,o):=by
  unfold nS;rw[if_neg (by simp only;rw[h.cl];simp),if_neg (fun r=>by have:=upTo_mem r;omega)];have ef:pV (q.G++[(((s+1:Nat):Int),o)]) ((s:Int)+1)=some o:=by
   rw[h.g,es];unfold pV;simp
  have ed:Jg (q.G++[(((s+1:Nat):Int),o)]) ((s:Int)+1)=[]:=by
   rw[h.g,es];unfold Jg;simp
  simp only[ef];unfold Po.fetch;simp only[ed]
 rw[e2];refine⟨rfl,rfl,rfl,rfl,h.d,fun x hx=> ?_,h.r,rfl,rfl,?_,h.cl⟩
 ·by_cases q':x=o
  ·subst q';exact aj _ sI
  ·exact av _ ((jM q').2 (h.t x hx))
 ·show q.last=_
  rw[h.la];omega
theorem EJ.fill (hO:rM [[0]] 1): ∀(k:Nat) {n:Nat} {d:De} {R:List Ob},EJ p e n d→n+k≤p*kL e→(mM 0 [[0]] e 0 k d R).2.2=0∧EJ p e (n+k) (mM 0 [[0]] e 0 k d R).1∧(mM 0 [[0]] e 0 k d R).2.1.length=R.length+k
 |0,n,d,R,h,hk=>⟨rfl,h,rfl⟩
 |k+1,n,d,R,h,hk=>by
  obtain⟨t1,t2⟩:=h.take hO om true;rw[wV t1];obtain⟨a,b,c⟩:=EJ.fill hO k (R:=R++[(takeD 0 [[0]] e d 0 0 true).2.2]) t2 om;refine⟨a,by rw[show n+(k+1)=n+1+k by omega];exact b,by rw[c];simp;omega⟩
end
theorem pnew_nil {B:Nat} {ev:Nat→Addr} (v n:Int) (w:World) (hE:qC B ev w):
 Calls prog 9 #[.pointer none,.int .i64 v,.int .i64 n] w fun r w'=>r= .returned (.tuple #[.pointer none,kM ev 3])∧Below w.heap.size w w':=by
 have r2:w.cell? ⟨0,0,none⟩=some (kM ev 3):=(hE.at 3 (by decide) (by decide)).1;have l2:0<w.heap.size:=(hE.at 3 (by decide) (by decide)).2;have e1:kM ev 3= .iface 336 (.pointer (some (ev 3))):=rfl;rw[e1] at r2 ⊢;clear hE e1;go_in
 go_wp2_with fail;go_quiet (fail);go_wp2;go_ret2
 exact⟨rfl,jY⟩
theorem XO (x:Value) (v most:Int) (w:World) (hm:most<1∨16<most):
 Calls prog 10 #[x,.int .i64 v,.int .i64 most] w fun r w'=>r= .returned (.tuple #[.pointer none,.int .i64 2])∧w'=w:=by
 have hd:(most<1∧decide (most<1)=true)∨(¬most<1∧decide (most<1)=false∧decide ((16:Int)<most)=true):=by
  by_cases h0:most<1
  ·exact .inl ⟨h0,dQt h0⟩
  ·exact .inr ⟨h0,dQf h0,dQt om⟩
 clear hm;rcases hd with⟨h0,d0⟩|⟨h0,d0,d1⟩;all_goals
  go_in
  go_wp2;go_ret2
  exact⟨rfl,rfl⟩
section
variable {σ:Type} {w w1 W:World} {L:List Nat} {pd e pq:Nat} {mn:Int} {O:List (List Int)} {D:vC pd e mn O w1} {w0:World} {P:FEnv σ w0} {s:σ} {p:Po}
theorem duo_doc (h:lT P (jX D pq) w L s p W): ∃qr kr qw kw,W.cell? ⟨pq,2,none⟩=some (.slice qr p.R.length kr)∧W.cell? ⟨pq,4,none⟩=some (.slice qw p.W.length kw)∧pq<W.heap.size∧(∀W',Below W.heap.size W W'→nO [] W' (.slice qw p.W.length kw) (ints p.W))∧p.W.length≤8∧p.R.length≤16:=by
 obtain⟨X,F,Y,G,q⟩:=h;obtain⟨⟨vr,vt,vw,vg,t⟩,i⟩:=q.t;obtain⟨qr,kr,rfl⟩:=l6 t.b.r;obtain⟨qw,kw,rfl⟩:=l6 t.b.ow;have h1:=i.r;have h2:=i.m1.2;exact⟨qr,kr,qw,kw,t.b.c.gC 2,t.b.c.gC 4,t.b.c.lt,fun W' hW=>rH (jQ t.b.ow (Keep.of (S:=[]) hW) (fun s q=>by cases q)),i.w,om⟩
theorem lT.row {B n s:Nat} {E:TypeId} {v:Value} {us:List Value} {K:List Nat} {W':World} (ho:W.ownsRow B E s v n us) (hK:Keep K W W') (hn: ∀x∈L,x∉K) (hv: ∀y∈jS v,y∈L):W'.ownsRow B E s v n us:=jQ ho hK (fun s q r=>hn s (hv s r) q)
end
section
variable {σ τ:Type} {w0 w1 w W W':World} {E:FEnv σ w0} {D:FEnv τ w1} {L:List Nat} {d:σ} {m:τ} {v v':Value}
theorem lT.app (h:lT E D w L d m W) (hv: ∀y∈jS v,y∈L) (hg:W.grownBy W' v.ownBlock) (hz:v'.ownBlock=v.ownBlock∨v'.ownBlock=some W.heap.size) (hlt: ∀g,v'.ownBlock=some g→g<W'.heap.size):
 ∃L',lT E D w L' d m W'∧∀y∈jS v',y∈L':=by
 refine⟨_,h.put (N:=(jS v').filter (fun y=>decide (W.heap.size≤y))) (kJ hg) hv (fun y hy=> ?_),fun y hy=> ?_⟩
 ·obtain⟨q1,q2⟩:=bG.1 hy
  exact⟨of_decide_eq_true q2,hlt y (o7.1 q1)⟩
 ·rcases oM hz y hy with r|r
  ·exact aj _ (hv y r)
  ·exact av _ (bG.2 ⟨hy,dQt r⟩)
end
theorem F7 {mn:Int} {O:List (List Int)} {e:Nat} {v:Int}: ∀(n:Nat) (d:De) (R:List Ob),(mM mn O e v n d R).2.2≤10
 |0,d,R=>bq _
 |n+1,d,R=>by
  by_cases h:(takeD mn O e d 0 v true).2.1=0
  ·rw[wV h];exact F7 n _ _
  ·rw[Gb h];exact F6 0 v true
section
variable {w w0 w1 W:World} {L:List Nat} {pd pc pz pdm e:Nat} {mn:Int} {O:List (List Int)} {ev:Nat→Addr} {E:sG pd pc pz e mn O ev w0} {D:vC pdm e mn O w1} {τ:Type} {T:FEnv τ w1} {d:De} {m:τ} {l:List Ob} {p:Po}
theorem Kw (n:Nat) (h:lT E.dr.toFEnv T w L d m W) (hn:1≤n∧n≤16) (hm:MoI e l d) (hH:0<d.H.length) (h0:(mM mn O e 0 n d []).2.2≠0):
 Calls prog 9 #[.pointer (some ⟨pd,0,none⟩),.int .i64 0,.int .i64 n] W fun en W'=>en= .returned (.tuple #[.pointer none,kM ev (mM mn O e 0 n d []).2.2])∧lT E.dr.toFEnv T w L (mM mn O e 0 n d []).1 m W'∧∃K,Keep K W W'∧∀b∈L,b∉K:=
 h.zP fun X F hs=>(Gd 0 n hs hn hm hH).mono fun en W' hp=>by
  rcases hp with⟨_,q⟩|⟨q,_⟩
  ·exact q
  ·exact absurd q h0
end
section
variable {w w0 w1 W:World} {L:List Nat} {pdm e:Nat} {mn:Int} {O:List (List Int)} {D:vC pdm e mn O w1} {σ:Type} {P:FEnv σ w0} {s:σ} {d:De} {l:List Ob}
theorem J2 (n:Nat) (h:lT P D.toFEnv w L s d W) (hn:1≤n∧n≤16) (hm:MoI e l d) (hH:0<d.H.length) (h0:(mM mn O e 0 n d []).2.2≠0):
 Calls prog 10 #[.pointer (some ⟨pdm,0,none⟩),.int .i64 0,.int .i64 n] W fun en W'=>en= .returned (.tuple #[.pointer none,.int .i64 (mM mn O e 0 n d []).2.2])∧lT P D.toFEnv w L s (mM mn O e 0 n d []).1 W'∧∃K,Keep K W W'∧∀b∈L,b∉K:=
 h.Ak fun X F hs=>(Iq 0 n hs hn hm hH).mono fun en W' hp=>by
  rcases hp with⟨_,q⟩|⟨q,_⟩
  ·exact q
  ·exact absurd q h0
end
def xq (n:Nat):Code→Option Code
 | .region m o d=>if m=n then some (.region m o d) else none
 | .loop c=>xq n c
 | .seq a b=>match xq n a with
   |some c=>some c
   |none=>xq n b
 | .block _ c=>xq n c
 | .scope c=>xq n c
 | .cond _ a b=>match xq n a with
   |some c=>some c
   |none=>xq n b
 |_=>none
noncomputable def paReg (n:Nat):Code:=((Tryz.f3.body.bind (xq n)).getD .skip)
section
variable {s0 s1 s2 s3 s4 s5 s6 s7 s8 s9 s10 s11 s12 s13 s14 s15 s16 s17 s18 s19 s20 s21 s22 s23 s24 s25 s26 s27 s28 s29 s30 s31 s32 s33 s34 s35 s36 s37 s38 s39 s40 s41 s42 s43 s44 s45 s46 s47 s48 s49 s50 s51 s52 s53 s54 s55 s56 s57 s58 s59 s60 s61 s62 s63 s64 s65 s66 s67 s68 s69 s70 s71 s72 s73 s74 s75 s76 s77 s78 s79 s80 s81 s82 s83 s84 s85 s86 s87 s88 s89 s90 s91 s92 s93 s94 s95 s96 s97 s98 s99 Dr Dt Du Dv Dw Ky Kz KD KF KG KH KI KJ KL KM KO KQ KS KT KU KV KY KZ La Lb Lc Ld Le Lf Lg Lh Li Lj Ll Lm Lp Lr Ls Lu Lv Lx LK LM LV LX LY LZ M9 Ma Mc Md Me Mf Mg Mh Mi Mj Mk Ml Mq Mr Ms Mv Mw Mx MB MC ME MG MH MI MJ MO MP MQ MR MU MW MX Na Nb Nc Nf Ng Nh Ni Nj Nk Nl Nn Np Nq Nr Ns Nt QK QL QM QN QO QS QT QU QV QW QX QY Nu Nv Nw Ny Nz NA NH NI NJ NK NM NP NQ NU NV O9 Oa Oc Od Oe Og Oh Oi Oj Ol Om Oo Oq Ot Ou Ow Ox Oy Oz OG OH OI OJ OM QZ Ra Rb Rc Rf Rh Ri Rj Rk Rl OP OQ OT OV OX OY OZ Pb Rm Rn Ro Rp Rq Rs Rt Ru Rv Rw Rx Ry Rz RF RG RH RJ RL Dx Dy Dz DF:Value}
variable {ev:Nat→Addr} {w w3:World} {pd pc pz pdm e pp pq:Nat} {mn:Int} {O:List (List Int)} {E0:sG pd pc pz e mn O ev w3} {D0:vC pdm e mn O w3} {L:List Nat} {p p2:Po}
theorem xu {K:Act→World→Prop} {Q:Exit→Act→World→Prop} {wz:World} (hD:lT (kQ E0.dr pp) (jX D0 pq) w L p2 p2 wz)
 (hK: ∀(r264 r265 r266 r267 r268 r269 r270 r271 r272 r273 r274 r275 r276 r277 r278 r279 r280:Value) (w':World),Below wz.heap.size wz w'→K ⟨#[s0,s1,s2,s3,s4,s5,s6,s7,s8,s9,s10,s11,s12,s13,s14,.pointer (some ⟨pp,0,none⟩),s16,.pointer (some ⟨pq,0,none⟩),s18,s19,s20,s21,s22,s23,s24,s25,s26,s27,s28,s29,s30,s31,s32,s33,s34,s35,s36,s37,s38,s39,s40,s41,s42,s43,s44,s45,s46,s47,s48,s49,s50,s51,s52,s53,s54,s55,s56,s57,s58,s59,s60,s61,s62,s63,s64,s65,s66,s67,s68,s69,s70,s71,s72,s73,s74,s75,s76,s77,s78,s79,s80,s81,s82,s83,s84,s85,s86,s87,s88,s89,s90,s91,s92,s93,s94,s95,s96,s97,s98,s99,Dr,Dt,Du,Dv,Dw,Ky,Kz,KD,KF,KG,KH,KI,KJ,KL,KM,KO,KQ,KS,KT,KU,KV,KY,KZ,La,Lb,Lc,Ld,Le,Lf,Lg,Lh,Li,Lj,Ll,Lm,Lp,Lr,Ls,Lu,Lv,Lx,LK,LM,LV,LX,LY,LZ,M9,Ma,Mc,Md,Me,Mf,Mg,Mh,Mi,Mj,Mk,Ml,Mq,Mr,Ms,Mv,Mw,Mx,MB,MC,ME,MG,MH,MI,MJ,MO,MP,MQ,MR,MU,MW,MX,Na,Nb,Nc,Nf,Ng,Nh,Ni,Nj,Nk,Nl,Nn,Np,Nq,Nr,Ns,Nt,QK,QL,QM,QN,QO,QS,QT,QU,QV,QW,QX,QY,Nu,Nv,Nw,Ny,Nz,NA,NH,NI,NJ,NK,NM,NP,NQ,NU,NV,O9,Oa,Oc,Od,Oe,Og,Oh,Oi,Oj,Ol,Om,Oo,Oq,Ot,Ou,Ow,Ox,Oy,Oz,OG,OH,OI,OJ,OM,QZ,Ra,Rb,Rc,Rf,Rh,Ri,Rj,Rk,Rl,OP,OQ,OT,OV,OX,OY,OZ,Pb,r264,r265,r266,r267,r268,r269,r270,r271,r272,r273,r274,r275,r276,r277,r278,r279,r280,.bool false,Dx,Dy,Dz,DF],[]⟩ w'):
 Code.wp prog (paReg 50) (Exit.then K Q) ⟨#[s0,s1,s2,s3,s4,s5,s6,s7,s8,s9,s10,s11,s12,s13,s14,.pointer (some ⟨pp,0,none⟩),s16,.pointer (some ⟨pq,0,none⟩),s18,s19,s20,s21,s22,s23,s24,s25,s26,s27,s28,s29,s30,s31,s32,s33,s34,s35,s36,s37,s38,s39,s40,s41,s42,s43,s44,s45,s46,s47,s48,s49,s50,s51,s52,s53,s54,s55,s56,s57,s58,s59,s60,s61,s62,s63,s64,s65,s66,s67,s68,s69,s70,s71,s72,s73,s74,s75,s76,s77,s78,s79,s80,s81,s82,s83,s84,s85,s86,s87,s88,s89,s90,s91,s92,s93,s94,s95,s96,s97,s98,s99,Dr,Dt,Du,Dv,Dw,Ky,Kz,KD,KF,KG,KH,KI,KJ,KL,KM,KO,KQ,KS,KT,KU,KV,KY,KZ,La,Lb,Lc,Ld,Le,Lf,Lg,Lh,Li,Lj,Ll,Lm,Lp,Lr,Ls,Lu,Lv,Lx,LK,LM,LV,LX,LY,LZ,M9,Ma,Mc,Md,Me,Mf,Mg,Mh,Mi,Mj,Mk,Ml,Mq,Mr,Ms,Mv,Mw,Mx,MB,MC,ME,MG,MH,MI,MJ,MO,MP,MQ,MR,MU,MW,MX,Na,Nb,Nc,Nf,Ng,Nh,Ni,Nj,Nk,Nl,Nn,Np,Nq,Nr,Ns,Nt,QK,QL,QM,QN,QO,QS,QT,QU,QV,QW,QX,QY,Nu,Nv,Nw,Ny,Nz,NA,NH,NI,NJ,NK,NM,NP,NQ,NU,NV,O9,Oa,Oc,Od,Oe,Og,Oh,Oi,Oj,Ol,Om,Oo,Oq,Ot,Ou,Ow,Ox,Oy,Oz,OG,OH,OI,OJ,OM,QZ,Ra,Rb,Rc,Rf,Rh,Ri,Rj,Rk,Rl,OP,OQ,OT,OV,OX,OY,OZ,Pb,Rm,Rn,Ro,Rp,Rq,Rs,Rt,Ru,Rv,Rw,Rx,Ry,Rz,RF,RG,RH,RJ,RL,Dx,Dy,Dz,DF],[]⟩ wz:=by
 have HK:=ah hK;clear hK;obtain⟨qr,kr,qw,kw,d2,d4,dl,hRV,w8,r16⟩:=duo_doc hD;obtain⟨X9,F9,Y9,G9,qd⟩:=hD;have hPR: ∀W,Below wz.heap.size wz W→Calls prog 25 #[.pointer (some ⟨pp,0,none⟩)] W fun r w'=>r= .returned (.int .i64 p2.R.length)∧w'=W:=fun W hW=>yC ((kQ E0.dr pp).go qd.s hW)
 have hPW: ∀W,Below wz.heap.size wz W→Calls prog 27 #[.pointer (some ⟨pp,0,none⟩)] W fun r w'=>(∃q k,r= .returned (.slice q p2.W.length k)∧w'.ownsRow W.heap.size 3 1 (.slice q p2.W.length k) p2.W.length (ints p2.W))∧Below W.heap.size W w':=fun W hW=>vR ((kQ E0.dr pp).go qd.s hW)
 have hSI: ∀(W:World) (v:Value),Below wz.heap.size wz W→nO [] W v (ints p2.W)→Calls prog 26 #[v,.slice qw p2.W.length kw] W fun e w'=>e= .returned (.bool true)∧Below W.heap.size W w':=fun W v hW hv=>wP v _ p2.W W hv (hRV W hW)
 have hOV: ∀(W W':World) (v:Value),W'.ownsRow W.heap.size 3 1 v p2.W.length (ints p2.W)→nO [] W' v (ints p2.W):=fun W W' v h=>rH h
 obtain⟨nR,hnR⟩:=eY p2.R.length;obtain⟨nW,hnW⟩:=eY p2.W.length;obtain⟨IW,hIW⟩:=eY (ints p2.W);rw[←hnR] at d2 hPR;rw[←hnW] at d4 hPW hSI w8 hOV;rw[←hIW] at hPW hSI hOV;have PRC:=ah hPR;have PWC:=ah hPW;have SIC:=ah hSI;have OVC:=ah hOV;clear qd hPR hPW hSI hRV hOV hnR hnW hIW r16 w8;conv=>arg 2;whnf
 go_region_held3 (fun w'=>w'.cell? ⟨pq,2,none⟩=some (.slice qr nR kr)∧w'.cell? ⟨pq,4,none⟩=some (.slice qw nW kw)) (go_keep) (first
  |(go_at_call 25;refine(PRC.out _ jY).mono ?_;rintro r wj ⟨rfl,rfl⟩)
  |(go_at_call 27;refine(PWC.out _ jY).mono ?_;rintro r wk9 ⟨⟨q7,k7,rfl,ho7⟩,hb7⟩;have rv7:=OVC.out _ _ _ ho7;have BB7:Below wz.heap.size wz wk9:=fG jY (hb7.mono sI);have f2:=(BB7.cell (p:=⟨pq,2,none⟩) dl).trans d2;have f4:=(BB7.cell (p:=⟨pq,4,none⟩) dl).trans d4)
  |(go_at_call 26;refine(SIC.out _ _ BB7 rv7).mono ?_;rintro r wm9 ⟨rfl,hb9⟩;have BB9:=BB7.trans (hb9.mono BB7.size);have g2:=(BB9.cell (p:=⟨pq,2,none⟩) dl).trans d2;have g4:=(BB9.cell (p:=⟨pq,4,none⟩) dl).trans d4))
 exact HK.out _ _ _ _ _ _ _ _ _ _ _ _ _ _ _ _ _ _ BB9
theorem XP {K:Act→World→Prop} {Q:Exit→Act→World→Prop} {wa:World} {bx:Nat} {num:Int} {EV:Value} {c:Nat} {US0 US1 US2:Value} {US:List Value}
 (hB:jR wa bx (US0::US1::US2:: .int .i64 num::US)) (hbx:bx∈L) (hD:lT (kQ E0.dr pp) (jX D0 pq) w L p p wa)
 (h1: ∀W,lT (kQ E0.dr pp) (jX D0 pq) w L p p W→Calls prog 19 #[.pointer (some ⟨pp,0,none⟩),.int .i64 num] W fun en W'=>en= .returned EV∧lT (kQ E0.dr pp) (jX D0 pq) w L p2 p W'∧∃K,Keep K W W'∧∀b∈L,b∉K)
 (h2: ∀W,lT (kQ E0.dr pp) (jX D0 pq) w L p2 p W→Calls prog 20 #[.pointer (some ⟨pq,0,none⟩),.int .i64 num] W fun en W'=>en= .returned (.int .i64 c)∧lT (kQ E0.dr pp) (jX D0 pq) w L p2 p2 W'∧∃K,Keep K W W'∧∀b∈L,b∉K)
 (h3: ∀W,Below w.heap.size w W→Calls prog 11 #[EV,.int .i64 c] W fun e w'=>e= .returned (.bool true)∧Below W.heap.size W w')
 (hK: ∀(r246 r247 r248 r249 r250 r251 r252 r253 r254:Value) (w':World),(lT (kQ E0.dr pp) (jX D0 pq) w L p2 p2 w'∧∀(v:Value) (n:Nat) (us:List Value),wa.ownsRow w.heap.size 40 2 v n us→(∀y∈jS v,y∈L)→w'.ownsRow w.heap.size 40 2 v n us)→K ⟨#[s0,s1,s2,s3,s4,s5,s6,s7,s8,s9,s10,s11,s12,s13,s14,.pointer (some ⟨pp,0,none⟩),s16,.pointer (some ⟨pq,0,none⟩),s18,s19,s20,s21,s22,.pointer (some ⟨bx,0,none⟩),s24,s25,s26,s27,s28,s29,s30,s31,s32,s33,s34,s35,s36,s37,s38,s39,s40,s41,s42,s43,s44,s45,s46,s47,s48,s49,s50,s51,s52,s53,s54,s55,s56,s57,s58,s59,s60,s61,s62,s63,s64,s65,s66,s67,s68,s69,s70,s71,s72,s73,s74,s75,s76,s77,s78,s79,s80,s81,s82,s83,s84,s85,s86,s87,s88,s89,s90,s91,s92,s93,s94,s95,s96,s97,s98,s99,Dr,Dt,Du,Dv,Dw,Ky,Kz,KD,KF,KG,KH,KI,KJ,KL,KM,KO,KQ,KS,KT,KU,KV,KY,KZ,La,Lb,Lc,Ld,Le,Lf,Lg,Lh,Li,Lj,Ll,Lm,Lp,Lr,Ls,Lu,Lv,Lx,LK,LM,LV,LX,LY,LZ,M9,Ma,Mc,Md,Me,Mf,Mg,Mh,Mi,Mj,Mk,Ml,Mq,Mr,Ms,Mv,Mw,Mx,MB,MC,ME,MG,MH,MI,MJ,MO,MP,MQ,MR,MU,MW,MX,Na,Nb,Nc,Nf,Ng,Nh,Ni,Nj,Nk,Nl,Nn,Np,Nq,Nr,Ns,Nt,QK,QL,QM,QN,QO,QS,QT,QU,QV,QW,QX,QY,Nu,Nv,Nw,Ny,Nz,NA,NH,NI,NJ,NK,NM,NP,NQ,NU,NV,O9,Oa,Oc,Od,Oe,Og,Oh,Oi,Oj,Ol,Om,Oo,Oq,Ot,Ou,Ow,Ox,Oy,Oz,OG,OH,OI,OJ,OM,r246,r247,r248,r249,r250,r251,r252,r253,r254,.bool false,OP,OQ,OT,OV,OX,OY,OZ,Pb,Rm,Rn,Ro,Rp,Rq,Rs,Rt,Ru,Rv,Rw,Rx,Ry,Rz,RF,RG,RH,RJ,RL,Dx,Dy,Dz,DF],[]⟩ w'):
 Code.wp prog (paReg 45) (Exit.then K Q) ⟨#[s0,s1,s2,s3,s4,s5,s6,s7,s8,s9,s10,s11,s12,s13,s14,.pointer (some ⟨pp,0,none⟩),s16,.pointer (some ⟨pq,0,none⟩),s18,s19,s20,s21,s22,.pointer (some ⟨bx,0,none⟩),s24,s25,s26,s27,s28,s29,s30,s31,s32,s33,s34,s35,s36,s37,s38,s39,s40,s41,s42,s43,s44,s45,s46,s47,s48,s49,s50,s51,s52,s53,s54,s55,s56,s57,s58,s59,s60,s61,s62,s63,s64,s65,s66,s67,s68,s69,s70,s71,s72,s73,s74,s75,s76,s77,s78,s79,s80,s81,s82,s83,s84,s85,s86,s87,s88,s89,s90,s91,s92,s93,s94,s95,s96,s97,s98,s99,Dr,Dt,Du,Dv,Dw,Ky,Kz,KD,KF,KG,KH,KI,KJ,KL,KM,KO,KQ,KS,KT,KU,KV,KY,KZ,La,Lb,Lc,Ld,Le,Lf,Lg,Lh,Li,Lj,Ll,Lm,Lp,Lr,Ls,Lu,Lv,Lx,LK,LM,LV,LX,LY,LZ,M9,Ma,Mc,Md,Me,Mf,Mg,Mh,Mi,Mj,Mk,Ml,Mq,Mr,Ms,Mv,Mw,Mx,MB,MC,ME,MG,MH,MI,MJ,MO,MP,MQ,MR,MU,MW,MX,Na,Nb,Nc,Nf,Ng,Nh,Ni,Nj,Nk,Nl,Nn,Np,Nq,Nr,Ns,Nt,QK,QL,QM,QN,QO,QS,QT,QU,QV,QW,QX,QY,Nu,Nv,Nw,Ny,Nz,NA,NH,NI,NJ,NK,NM,NP,NQ,NU,NV,O9,Oa,Oc,Od,Oe,Og,Oh,Oi,Oj,Ol,Om,Oo,Oq,Ot,Ou,Ow,Ox,Oy,Oz,OG,OH,OI,OJ,OM,QZ,Ra,Rb,Rc,Rf,Rh,Ri,Rj,Rk,Rl,OP,OQ,OT,OV,OX,OY,OZ,Pb,Rm,Rn,Ro,Rp,Rq,Rs,Rt,Ru,Rv,Rw,Rx,Ry,Rz,RF,RG,RH,RJ,RL,Dx,Dy,Dz,DF],[]⟩ wa:=by
 have HK:=ah hK;clear hK;have LB:=ah hB;have DA:=ah hD;have H1:=ah h1;have H2:=ah h2;have CDC:=ah h3;have LBX:=ah hbx;have y3:=hB.gC 3;have yl:=hB.lt;clear hB hD h1 h2 h3 hbx;conv=>arg 2;whnf
 go_region_held3 (fun w'=>w'.cell? ⟨bx,3,none⟩=some (.int .i64 num)) (go_keep) (first
  |(go_at_call 19;refine(H1.out _ (DA.out.go jY)).mono ?_;rintro r wb ⟨rfl,DXb,K1,hk1,hn1⟩;have LBb:=LB.out.mP.keep hk1 (hn1 bx LBX.out);have a3:=LBb.gC 3)
  |(go_at_call 20;refine(H2.out _ DXb).mono ?_;rintro r wd ⟨rfl,DXd,K2,hk2,hn2⟩;have LBd:=LBb.keep hk2 (hn2 bx LBX.out);have c3:=LBd.gC 3)
  |(go_at_call 11;refine(CDC.out _ DXd.bel).mono ?_;rintro r wz ⟨rfl,hbf⟩;have DXz:=DXd.go hbf;have e3:=(LBd.go hbf).gC 3))
 refine HK.out _ _ _ _ _ _ _ _ _ _ ⟨DXz,fun v n us ho hv=> ?_⟩;exact jQ (lT.row (lT.row ho.drew hk1 hn1 hv) hk2 hn2 hv) (Keep.of (S:=[]) hbf) (fun s hs=>by cases hs)
theorem pa_give {K:Act→World→Prop} {Q:Exit→Act→World→Prop} {wa:World} {bx bo:Nat} {wk:Int} {o:Ob} {EV:Value} {c:Nat} {US0:Value} {US:List Value}
 (hB:jR wa bx (US0:: .int .i64 wk::US)) (hO:jR wa bo [.int .i64 o.1,.int .i64 o.2]) (hbx:bx∈L) (hbo:bo∈L) (hD:lT (kQ E0.dr pp) (jX D0 pq) w L p p wa)
 (h1: ∀W,lT (kQ E0.dr pp) (jX D0 pq) w L p p W→Calls prog 15 #[.pointer (some ⟨pp,0,none⟩),.int .i64 wk,.agg #[.int .i64 o.1,.int .i64 o.2]] W fun en W'=>en= .returned EV∧lT (kQ E0.dr pp) (jX D0 pq) w L p2 p W'∧∃K,Keep K W W'∧∀b∈L,b∉K)
 (h2: ∀W,lT (kQ E0.dr pp) (jX D0 pq) w L p2 p W→Calls prog 16 #[.pointer (some ⟨pq,0,none⟩),.int .i64 wk,.agg #[.int .i64 o.1,.int .i64 o.2]] W fun en W'=>en= .returned (.int .i64 c)∧lT (kQ E0.dr pp) (jX D0 pq) w L p2 p2 W'∧∃K,Keep K W W'∧∀b∈L,b∉K)
 (h3: ∀W,Below w.heap.size w W→Calls prog 11 #[EV,.int .i64 c] W fun e w'=>e= .returned (.bool true)∧Below W.heap.size W w')
 (hK: ∀(r195 r196 r197 r198 r199 r200 r201 r202 r203 r204 r205:Value) (w':World),(lT (kQ E0.dr pp) (jX D0 pq) w L p2 p2 w'∧∀(v:Value) (n:Nat) (us:List Value),wa.ownsRow w.heap.size 40 2 v n us→(∀y∈jS v,y∈L)→w'.ownsRow w.heap.size 40 2 v n us)→K ⟨#[s0,s1,s2,s3,s4,s5,s6,s7,s8,s9,s10,s11,s12,s13,s14,.pointer (some ⟨pp,0,none⟩),s16,.pointer (some ⟨pq,0,none⟩),s18,s19,s20,s21,s22,.pointer (some ⟨bx,0,none⟩),s24,s25,s26,s27,.pointer (some ⟨bo,0,none⟩),s29,s30,s31,s32,s33,s34,s35,s36,s37,s38,s39,s40,s41,s42,s43,s44,s45,s46,s47,s48,s49,s50,s51,s52,s53,s54,s55,s56,s57,s58,s59,s60,s61,s62,s63,s64,s65,s66,s67,s68,s69,s70,s71,s72,s73,s74,s75,s76,s77,s78,s79,s80,s81,s82,s83,s84,s85,s86,s87,s88,s89,s90,s91,s92,s93,s94,s95,s96,s97,s98,s99,Dr,Dt,Du,Dv,Dw,Ky,Kz,KD,KF,KG,KH,KI,KJ,KL,KM,KO,KQ,KS,KT,KU,KV,KY,KZ,La,Lb,Lc,Ld,Le,Lf,Lg,Lh,Li,Lj,Ll,Lm,Lp,Lr,Ls,Lu,Lv,Lx,LK,LM,LV,LX,LY,LZ,M9,Ma,Mc,Md,Me,Mf,Mg,Mh,Mi,Mj,Mk,Ml,Mq,Mr,Ms,Mv,Mw,Mx,MB,MC,ME,MG,MH,MI,MJ,MO,MP,MQ,MR,MU,MW,MX,Na,Nb,Nc,Nf,Ng,Nh,Ni,Nj,Nk,Nl,Nn,Np,Nq,Nr,Ns,Nt,r195,r196,r197,r198,r199,r200,r201,r202,r203,r204,r205,.bool false,Nu,Nv,Nw,Ny,Nz,NA,NH,NI,NJ,NK,NM,NP,NQ,NU,NV,O9,Oa,Oc,Od,Oe,Og,Oh,Oi,Oj,Ol,Om,Oo,Oq,Ot,Ou,Ow,Ox,Oy,Oz,OG,OH,OI,OJ,OM,QZ,Ra,Rb,Rc,Rf,Rh,Ri,Rj,Rk,Rl,OP,OQ,OT,OV,OX,OY,OZ,Pb,Rm,Rn,Ro,Rp,Rq,Rs,Rt,Ru,Rv,Rw,Rx,Ry,Rz,RF,RG,RH,RJ,RL,Dx,Dy,Dz,DF],[]⟩ w'):
 Code.wp prog (paReg 35) (Exit.then K Q) ⟨#[s0,s1,s2,s3,s4,s5,s6,s7,s8,s9,s10,s11,s12,s13,s14,.pointer (some ⟨pp,0,none⟩),s16,.pointer (some ⟨pq,0,none⟩),s18,s19,s20,s21,s22,.pointer (some ⟨bx,0,none⟩),s24,s25,s26,s27,.pointer (some ⟨bo,0,none⟩),s29,s30,s31,s32,s33,s34,s35,s36,s37,s38,s39,s40,s41,s42,s43,s44,s45,s46,s47,s48,s49,s50,s51,s52,s53,s54,s55,s56,s57,s58,s59,s60,s61,s62,s63,s64,s65,s66,s67,s68,s69,s70,s71,s72,s73,s74,s75,s76,s77,s78,s79,s80,s81,s82,s83,s84,s85,s86,s87,s88,s89,s90,s91,s92,s93,s94,s95,s96,s97,s98,s99,Dr,Dt,Du,Dv,Dw,Ky,Kz,KD,KF,KG,KH,KI,KJ,KL,KM,KO,KQ,KS,KT,KU,KV,KY,KZ,La,Lb,Lc,Ld,Le,Lf,Lg,Lh,Li,Lj,Ll,Lm,Lp,Lr,Ls,Lu,Lv,Lx,LK,LM,LV,LX,LY,LZ,M9,Ma,Mc,Md,Me,Mf,Mg,Mh,Mi,Mj,Mk,Ml,Mq,Mr,Ms,Mv,Mw,Mx,MB,MC,ME,MG,MH,MI,MJ,MO,MP,MQ,MR,MU,MW,MX,Na,Nb,Nc,Nf,Ng,Nh,Ni,Nj,Nk,Nl,Nn,Np,Nq,Nr,Ns,Nt,QK,QL,QM,QN,QO,QS,QT,QU,QV,QW,QX,QY,Nu,Nv,Nw,Ny,Nz,NA,NH,NI,NJ,NK,NM,NP,NQ,NU,NV,O9,Oa,Oc,Od,Oe,Og,Oh,Oi,Oj,Ol,Om,Oo,Oq,Ot,Ou,Ow,Ox,Oy,Oz,OG,OH,OI,OJ,OM,QZ,Ra,Rb,Rc,Rf,Rh,Ri,Rj,Rk,Rl,OP,OQ,OT,OV,OX,OY,OZ,Pb,Rm,Rn,Ro,Rp,Rq,Rs,Rt,Ru,Rv,Rw,Rx,Ry,Rz,RF,RG,RH,RJ,RL,Dx,Dy,Dz,DF],[]⟩ wa:=by
 have HK:=ah hK;clear hK;have LB:=ah hB;have LO:=ah hO;have DA:=ah hD;have H1:=ah h1;have H2:=ah h2;have CDC:=ah h3;have LBX:=ah hbx;have LBO:=ah hbo;have y1:=hB.gC 1;have yl:=hB.lt;have z0:=hO.gC 0;have z1:=hO.gC 1;have zl:=hO.lt;clear hB hO hD h1 h2 h3 hbx hbo;conv=>arg 2;whnf
 go_region_held3 (fun w'=>w'.cell? ⟨bx,1,none⟩=some (.int .i64 wk)∧w'.cell? ⟨bo,0,none⟩=some (.int .i64 o.1)∧w'.cell? ⟨bo,1,none⟩=some (.int .i64 o.2)) (go_keep) (first
  |(go_at_call 15;refine(H1.out _ (DA.out.go jY)).mono ?_;rintro r wb ⟨rfl,DXb,K1,hk1,hn1⟩;have LBb:=LB.out.mP.keep hk1 (hn1 bx LBX.out);have LOb:=LO.out.mP.keep hk1 (hn1 bo LBO.out);have a1:=LBb.gC 1;have a2:=LOb.gC 0;have a3:=LOb.gC 1)
  |(go_at_call 16;refine(H2.out _ DXb).mono ?_;rintro r wd ⟨rfl,DXd,K2,hk2,hn2⟩;have LBd:=LBb.keep hk2 (hn2 bx LBX.out);have LOd:=LOb.keep hk2 (hn2 bo LBO.out);have c1:=LBd.gC 1;have c2:=LOd.gC 0;have c3:=LOd.gC 1)
  |(go_at_call 11;refine(CDC.out _ DXd.bel).mono ?_;rintro r wz ⟨rfl,hbf⟩;have DXz:=DXd.go hbf;have e1:=(LBd.go hbf).gC 1;have e2:=(LOd.go hbf).gC 0;have e3:=(LOd.go hbf).gC 1))
 refine HK.out _ _ _ _ _ _ _ _ _ _ _ _ ⟨DXz,fun v n us ho hv=> ?_⟩;exact jQ (lT.row (lT.row ho.drew hk1 hn1 hv) hk2 hn2 hv) (Keep.of (S:=[]) hbf) (fun s hs=>by cases hs)
end
