/- Lemmas and contracts for the claim's last text: PReady, PNew, PFul, PStart. -/
import Derived.Test.YtdcbhlcbiokbeaaGreatDoorPf01
import Derived.Test.YtdcbhlcbiokbeaaGreatDoorPf25
set_option linter.unusedSimpArgs false
set_option linter.unusedVariables false
set_option maxHeartbeats 16000000
set_option maxRecDepth 100000
namespace Go.Proofs.YtdcbhlcbiokbeaaGreatDoor
section
open Go.RowKit Go.Maps
attribute [local go_sem ↓] aO aP
section
variable {pd pc pz e:Nat} {mn:Int} {O:List (List Int)} {ev:Nat→Addr} {w0:World} {E:uo pd pc pz e mn O ev w0} {X F:List Nat} {w:World} {pp:Nat} {p:Po}
theorem PoB.rowW {X:List Nat} {B:Nat} {w:World} {pp pd bt bg:Nat} {vr vw:Value} {p:Po} (h:PoB X B w pp pd bt bg vr vw p):jy [] w vw (ints p.W):=kG (by rw[zU];exact h.ow) (fun x hx=>by cases hx)
theorem jW.lookG {w:World} {bg:Nat} {G:List (Int×Ob)} {t:Int} (h:jW Tryz.prog 3 w bg (uT G)) (ht:lW t):
 (Instr.lookup 257 (.map (some bg)) (.int .i64 t) true).run Tryz.prog w= .ok (.tuple #[.agg #[.int .i64 ((oJ G t).getD (0,0)).1,.int .i64 ((oJ G t).getD (0,0)).2],.bool (oJ G t).isSome]) w:=by
 rw[h.look qF Tryz.underlying257 (zeroObjV w) (keyOf_int_mk bD (wf64 ht)),zT]
 unfold oJ
 cases(G.find? fun g=>g.1==t).map (·.2)<;>rfl
theorem jW.delG_ {w:World} {bg:Nat} {G:List (Int×Ob)} {t:Int} (h:jW Tryz.prog 3 w bg (uT G)) (ht:lW t) (ty:TypeId):
 ∃w',(Builtin.delete_ #[257,3] ty #[.map (some bg),.int .i64 t]).run Tryz.prog w= .ok (.tuple #[]) w'∧jW Tryz.prog 3 w' bg (uT (delG G t))∧w.mapTurned w' bg:=by
 obtain⟨w',h1,h2,h3⟩:=h.drop qF Tryz.underlying257 (keyOf_int_mk bD (wf64 ht)) ty
 rw[del_map] at h2
 exact⟨w',h1,h2,h3⟩
theorem pready_A (t:Int) (h:PoX E X F pp p w) (hc:p.cl=true):
 Calls Tryz.prog 55 #[.pointer (some ⟨pp,0,none⟩),.int .i64 t] w (EPost (jw E pp).S X F p w (.tuple #[.agg #[.int .i64 0,.int .i64 0],.bool false,iJ ev 4])):=by
 have FIN:Hid (∀W,Below w.heap.size w W→EPost (jw E pp).S X F p w (.tuple #[.agg #[.int .i64 0,.int .i64 0],.bool false,iJ ev 4]) (.returned (.tuple #[.agg #[.int .i64 0,.int .i64 0],.bool false,iJ ev 4])) W):=fun W b=>⟨rfl,jm.same h b⟩
 have b1:Below w.heap.size w (w.alloc zO):=by unfold zO;exact iq
 have HE:=h.err.go b1
 obtain⟨⟨bt,bg,vr,vw,q⟩,hi⟩:=h.go b1
 have c7:=q.b.c.c 7 _ rfl;have cl:=q.b.c.lt
 rw[hc] at c7
 have gs:(w.alloc zO).cell? ⟨5,0,none⟩=some (iJ ev 4):=HE.cell 4 (by decide) (by decide)
 have gl:5<(w.alloc zO).heap.size:=aF (HE.glob 4 (by decide) (by decide)) HE.size
 have gn:5<w.heap.size:=by have:=HE.glob 4 (by decide) (by decide);have h2:=h.bel.size;exact aF this h2
 have LB:=ah (show gX (w.alloc zO) w.heap.size [.int .i64 0,.int .i64 0] from gX.mk_ w [.int .i64 0,.int .i64 0] 49 rfl)
 have m0:=LB.out.c 0 _ rfl;have m1:=LB.out.c 1 _ rfl;have f0:=LB.out.f 0 sI;have f1:=LB.out.f 1 sI;have ml:=LB.out.lt
 have ne7: ¬(w.heap.size=5):=om
 have ne7': ¬(5=w.heap.size):=om
 have LF:=ah (LB.out.iW (.int .i64 0) (.int .i64 0))
 obtain⟨W1,hW1⟩: ∃W1,w.alloc zO=W1:=⟨_,rfl⟩
 rw[hW1] at c7 cl gs gl m0 m1 f0 f1 ml LF b1
 have HB:=ah b1
 clear q hi h HE LB hc b1
 go_enter Tryz.func55,Tryz.ntmps55
 unfold zO at hW1
 go_wp2
 clear hW1
 go_region
 all_goals go_wp2
 all_goals
  have e0:=LF.out.c 0 _ rfl;have e1:=LF.out.c 1 _ rfl
  exact bodyPost_ret (v:=.tuple #[.agg #[.int .i64 0,.int .i64 0],.bool false,iJ ev 4]) (by simp[e0,e1,results,Tryz.results55,go_sem]) rfl (FIN.out _ (HB.out.trans iq))
theorem pready_B (t:Int) (h:PoX E X F pp p w) (hc:p.cl=false) (ht:t∈p.W):
 Calls Tryz.prog 55 #[.pointer (some ⟨pp,0,none⟩),.int .i64 t] w (EPost (jw E pp).S X F p w (.tuple #[.agg #[.int .i64 0,.int .i64 0],.bool false,.nilIface])):=by
 have FIN:Hid (∀W,Below w.heap.size w W→EPost (jw E pp).S X F p w (.tuple #[.agg #[.int .i64 0,.int .i64 0],.bool false,.nilIface]) (.returned (.tuple #[.agg #[.int .i64 0,.int .i64 0],.bool false,.nilIface])) W):=fun W b=>⟨rfl,jm.same h b⟩
 have b1:Below w.heap.size w (w.alloc zO):=by unfold zO;exact iq
 obtain⟨⟨bt,bg,vr,vw,q⟩,hi⟩:=h.go b1
 have c7:=q.b.c.c 7 _ rfl;have c4:=q.b.c.c 4 _ rfl;have cl:=q.b.c.lt
 rw[hc] at c7
 have CN:=nG vw p.W t _ q.b.rowW (by have:=hi.w;omega)
 rw[decide_eq_true ht] at CN
 have LB:=ah (show gX (w.alloc zO) w.heap.size [.int .i64 0,.int .i64 0] from gX.mk_ w [.int .i64 0,.int .i64 0] 49 rfl)
 have m0:=LB.out.c 0 _ rfl;have m1:=LB.out.c 1 _ rfl;have f0:=LB.out.f 0 sI;have f1:=LB.out.f 1 sI;have ml:=LB.out.lt
 have LF:=ah (LB.out.iW (.int .i64 0) (.int .i64 0))
 obtain⟨qw,kw,rfl⟩:=nH q.b.ow
 obtain⟨n,hn⟩: ∃n,n=p.W.length:=⟨_,rfl⟩
 rw[←hn] at c4 CN
 obtain⟨W1,hW1⟩: ∃W1,w.alloc zO=W1:=⟨_,rfl⟩
 rw[hW1] at c7 c4 cl m0 m1 f0 f1 ml LF b1 CN
 have HB:=ah b1;have HCN:=ah CN
 clear q hi h LB hc b1 ht hn CN
 go_enter Tryz.func55,Tryz.ntmps55
 unfold zO at hW1
 go_wp2_with fail
 clear hW1
 refine HCN.out.mono ?_
 rintro r w1 ⟨rfl,rfl⟩
 go_wp2
 have e0:=LF.out.c 0 _ rfl;have e1:=LF.out.c 1 _ rfl
 exact bodyPost_ret (v:=.tuple #[.agg #[.int .i64 0,.int .i64 0],.bool false,.nilIface]) (by simp[e0,e1,results,Tryz.results55,go_sem]) rfl (FIN.out _ (HB.out.trans iq))
theorem pready_C (t:Int) (h:PoX E X F pp p w) (hc:p.cl=false) (ht:t∉p.W) (hf:lW t) (hg:oJ p.G t=none):
 Calls Tryz.prog 55 #[.pointer (some ⟨pp,0,none⟩),.int .i64 t] w (EPost (jw E pp).S X F p w (.tuple #[.agg #[.int .i64 0,.int .i64 0],.bool false,iJ ev 4])):=by
 have FIN:Hid (∀W,Below w.heap.size w W→EPost (jw E pp).S X F p w (.tuple #[.agg #[.int .i64 0,.int .i64 0],.bool false,iJ ev 4]) (.returned (.tuple #[.agg #[.int .i64 0,.int .i64 0],.bool false,iJ ev 4])) W):=fun W b=>⟨rfl,jm.same h b⟩
 have b1:Below w.heap.size w (w.alloc zO):=by unfold zO;exact iq
 have HE:=h.err.go b1
 obtain⟨⟨bt,bg,vr,vw,q⟩,hi⟩:=h.go b1
 have c7:=q.b.c.c 7 _ rfl;have c4:=q.b.c.c 4 _ rfl;have c5:=q.b.c.c 5 _ rfl;have cl:=q.b.c.lt
 rw[hc] at c7
 have CN:=nG vw p.W t _ q.b.rowW (by have:=hi.w;omega)
 rw[decide_eq_false ht] at CN
 have lk:=q.b.g.lookG hf
 rw[hg] at lk
 simp only[Option.getD_none,Option.isSome_none] at lk
 have LB:=ah (show gX (w.alloc zO) w.heap.size [.int .i64 0,.int .i64 0] from gX.mk_ w [.int .i64 0,.int .i64 0] 49 rfl)
 have gn:5<w.heap.size:=by have:=HE.glob 4 (by decide) (by decide);have h2:=h.bel.size;exact aF this h2
 have ne7: ¬(w.heap.size=5):=om
 have ne7': ¬(5=w.heap.size):=om
 obtain⟨qw,kw,rfl⟩:=nH q.b.ow
 obtain⟨n,hn⟩: ∃n,n=p.W.length:=⟨_,rfl⟩
 rw[←hn] at c4 CN
 obtain⟨W1,hW1⟩: ∃W1,w.alloc zO=W1:=⟨_,rfl⟩
 rw[hW1] at c7 c4 c5 cl LB b1 CN lk HE
 have HB:=ah b1;have HCN:=ah CN
 have b2:Below W1.heap.size W1 (W1.alloc (.cells #[.int .i64 0,.int .i64 0] 49)):=iq
 have HB2:=ah b2
 have L2:=LB.out.go b2
 have m0:=L2.c 0 _ rfl;have m1:=L2.c 1 _ rfl;have f0:=L2.f 0 sI;have f1:=L2.f 1 sI;have ml:=L2.lt
 have LF:=ah (L2.iW (.int .i64 0) (.int .i64 0))
 have gs:(W1.alloc (.cells #[.int .i64 0,.int .i64 0] 49)).cell? ⟨5,0,none⟩=some (iJ ev 4):=((HE.go b2).at 4 (by decide) (by decide)).1
 have gl:5<(W1.alloc (.cells #[.int .i64 0,.int .i64 0] 49)).heap.size:=((HE.go b2).at 4 (by decide) (by decide)).2
 clear q hi h LB hc b1 ht hn CN hg hf b2 L2 HE
 go_enter Tryz.func55,Tryz.ntmps55
 unfold zO at hW1
 go_wp2_with fail
 clear hW1
 refine HCN.out.mono ?_
 rintro r w1 ⟨rfl,rfl⟩
 go_wp2
 go_region
 all_goals go_wp2
 all_goals
  have hb:=HB.out;have hz:=hb.size
  have e0:=LF.out.c 0 _ rfl;have e1:=LF.out.c 1 _ rfl
  exact bodyPost_ret (v:=.tuple #[.agg #[.int .i64 0,.int .i64 0],.bool false,iJ ev 4]) (by simp[e0,e1,results,Tryz.results55,go_sem]) rfl (FIN.out _ iq)
theorem pready_D (t:Int) (o:Ob) (h:PoX E X F pp p w) (hc:p.cl=false) (ht:t∉p.W) (hf:lW t) (hg:oJ p.G t=some o) (hP:kJ e (p.fetch t o)) (ho:oM o) (hT:o∉p.T):
 Calls Tryz.prog 55 #[.pointer (some ⟨pp,0,none⟩),.int .i64 t] w (EPost (jw E pp).S X F (p.fetch t o) w (.tuple #[.agg #[.int .i64 o.1,.int .i64 o.2],.bool true,.nilIface])):=by
 have b1:Below w.heap.size w (w.alloc zO):=by unfold zO;exact iq
 have hx:=h.lim
 obtain⟨⟨bt,bg,vr,vw,q0⟩,hi⟩:=h
 have q:=q0.go b1
 have c7:=q.b.c.c 7 _ rfl;have c4:=q.b.c.c 4 _ rfl;have c5:=q.b.c.c 5 _ rfl;have c3:=q.b.c.c 3 _ rfl;have cl:=q.b.c.lt
 rw[hc] at c7
 have CN:=nG vw p.W t _ q.b.rowW (by have:=hi.w;omega)
 rw[decide_eq_false ht] at CN
 have lk:=q.b.g.lookG hf
 rw[hg] at lk
 simp only[Option.getD_some,Option.isSome_some] at lk
 have LB:=ah (show gX (w.alloc zO) w.heap.size [.int .i64 0,.int .i64 0] from gX.mk_ w [.int .i64 0,.int .i64 0] 49 rfl)
 have nbx:w.heap.size∉pws pp bt bg vw:=fun r=>by
  have:=(hx _ (E.nY q.s _ (av _ r))).2;omega
 obtain⟨qw,kw,rfl⟩:=nH q.b.ow
 obtain⟨n,hn⟩: ∃n,n=p.W.length:=⟨_,rfl⟩
 rw[←hn] at c4 CN
 obtain⟨W1,hW1⟩: ∃W1,w.alloc zO=W1:=⟨_,rfl⟩
 rw[hW1] at c7 c4 c5 c3 cl LB b1 CN lk q
 have HB:=ah b1;have HCN:=ah CN
 have hb3:Below W1.heap.size W1 (W1.alloc (bO o)):=by unfold bO;exact iq
 have q3:=q.go hb3
 have L2:gX (W1.alloc (bO o)) W1.heap.size [.int .i64 o.1,.int .i64 o.2]:=gX.mk_ W1 [.int .i64 o.1,.int .i64 o.2] 49 rfl
 have L1:=LB.out.go hb3
 obtain⟨W3,hW3⟩: ∃W3,W1.alloc (bO o)=W3:=⟨_,rfl⟩
 rw[hW3] at hb3 q3 L2 L1
 have hB3:=HB.out.trans (hb3.mono HB.out.size)
 obtain⟨b2,hb2⟩: ∃b2,W1.heap.size=b2:=⟨_,rfl⟩
 have nb2:b2∉pws pp bt bg (.slice qw p.W.length kw):=fun r=>by
  have:=(q.b.lim b2 r).2;omega
 have n12: ¬(w.heap.size=b2):=by have:=LB.out.lt;omega
 have n21: ¬(b2=w.heap.size):=om
 obtain⟨w4,hrun4,M4,T4⟩:=q3.b.g.delG_ hf 0
 obtain⟨m_1,m_2,m_3,m_4,m_5,m_6⟩:=q3.b.ne
 have K4:Keep [bg] W3 w4:=j4 T4 (.inl sI)
 have C4:=q3.b.c.keep K4 (by simpa using m_2)
 have A4:=L1.keep K4 (by simp;exact fun r=>nbx (r▸lQ))
 have B4:=L2.keep K4 (by simp;exact fun r=>nb2 (hb2▸r▸lQ))
 rw[hb2] at B4
 have TM4:=q3.b.t.keep K4 (by simpa using m_3)
 obtain⟨w5,hrun5,M5,T5⟩:=(TM4.keep (Keep.refl [] w4).drew sI).ins hi.zW ho hT hi.fewT.1
 have K5:Keep [bt] w4 w5:=(Keep.refl [bt] w4).drew.then (j4 T5 (.inl sI))
 have C5:=C4.keep K5 (by simpa using m_1)
 have A5:=A4.keep K5 (by simp;exact fun r=>nbx (r▸j5))
 have B5:=B4.keep K5 (by simp;exact fun r=>nb2 (r▸j5))
 have G5:=M4.keep K5 (by simpa using m_3.symm)
 have LF:=ah (A5.iW (.int .i64 o.1) (.int .i64 o.2))
 have x5:=C4.c 3 _ rfl;have xl:=C4.lt
 have v0:=B4.c 0 _ rfl;have v1:=B4.c 1 _ rfl;have vl:=B4.lt
 have y0:=B5.c 0 _ rfl;have y1:=B5.c 1 _ rfl;have yl:=B5.lt
 have z0:=A5.c 0 _ rfl;have z1:=A5.c 1 _ rfl;have zl:=A5.lt;have zf0:=A5.f 0 sI;have zf1:=A5.f 1 sI
 have d5:=q3.b.c.c 5 _ rfl;have dl:=q3.b.c.lt
 have FIN:Hid (EPost (jw E pp).S X F (p.fetch t o) w (.tuple #[.agg #[.int .i64 o.1,.int .i64 o.2],.bool true,.nilIface]) (.returned (.tuple #[.agg #[.int .i64 o.1,.int .i64 o.2],.bool true,.nilIface])) ((w5.setCell ⟨w.heap.size,0,none⟩ (.int .i64 o.1)).setCell ⟨w.heap.size,1,none⟩ (.int .i64 o.2))):=by
  obtain⟨W,hW⟩: ∃W,W=(w5.setCell ⟨w.heap.size,0,none⟩ (.int .i64 o.1)).setCell ⟨w.heap.size,1,none⟩ (.int .i64 o.2):=⟨_,rfl⟩
  rw[←hW]
  have K6:Keep [w.heap.size] w5 W:=by rw[hW];exact((Keep.refl _ _).setCell (p:=⟨w.heap.size,0,none⟩) (.inl sI) _).setCell (p:=⟨w.heap.size,1,none⟩) (.inl sI) _
  have z3:=hB3.size;have z4:=K4.size;have z5:=K5.size
  have KA:Keep [pp,bt,bg] w W:=(((Keep.of hB3).then (K4.mono (fun s r=>by simp at r;subst r;simp))).then (K5.mono (fun s r=>by simp at r;subst r;simp))).trans K6 (fun s r=>by simp at r;subst r;exact .inr (aI _))
  have KX: ∀x∈pws pp bt bg (.slice qw p.W.length kw),x∉[w.heap.size]:=fun x hx r=>by simp at r;exact nbx (r▸hx)
  exact⟨rfl,q0.putR (vr':=vr) (p':=p.fetch t o) KA (C5.keep K6 (KX _ jr)) (M5.keep K6 (KX _ j5)) (G5.keep K6 (KX _ lQ)) (q0.b.r.keep KA (fun s r=>by simp at r;exact .inl (q0.inX _ (r.elim (fun r=>r▸jr) (fun r=>r.elim (fun r=>r▸j5) (fun r=>r▸lQ)))))) rfl rfl hP⟩
 clear q0 LB hc b1 ht hg L1 L2 C4 A4 B4 C5 A5 B5 M4 M5 G5 TM4 K4 K5 T4 T5 q3 q hi hB3 hb3 HB hf ho hT hP nbx nb2 m_1 m_2 m_3 m_4 m_5 m_6 hn CN hx
 go_enter Tryz.func55,Tryz.ntmps55
 unfold zO at hW1
 unfold bO at hW3
 go_wp2_with fail
 clear hW1
 refine HCN.out.mono ?_
 rintro r w1 ⟨rfl,rfl⟩
 go_wp2_with fail
 clear hW3
 refine jd 5 kR kR ?_
 simp only[aT,bq,aL,aW]
 repeat still_step
 refine wpStill_nil ?_
 go_wp2
 have e0:=LF.out.c 0 _ rfl;have e1:=LF.out.c 1 _ rfl
 exact bodyPost_ret (v:=.tuple #[.agg #[.int .i64 o.1,.int .i64 o.2],.bool true,.nilIface]) (by simp[e0,e1,results,Tryz.results55,go_sem]) rfl FIN.out
theorem Bc (t:Int) (hf:lW t) (h:PoX E X F pp p w):
 Calls Tryz.prog 55 #[.pointer (some ⟨pp,0,none⟩),.int .i64 t] w (EPost (jw E pp).S X F (lN p t).1 w (.tuple #[.agg #[.int .i64 (lN p t).2.2.2.1,.int .i64 (lN p t).2.2.2.2],.bool (lN p t).2.2.1,iJ ev (lN p t).2.1])):=by
 have hI:=h.2.ready t
 revert hI
 unfold lN
 by_cases hc:p.cl=true
 ·rw[if_pos hc];intro _;exact pready_A t h hc
 rw[if_neg hc]
 have hc':p.cl=false:=by simpa using hc
 by_cases ht:t∈p.W
 ·rw[if_pos ht];intro _;exact pready_B t h hc' ht
 rw[if_neg ht]
 cases hg:oJ p.G t with
 |none=>intro _;exact pready_C t h hc' ht hf hg
 |some o=>
  intro hI
  have hm:o∈p.G.map (·.2):=by
   unfold oJ at hg
   obtain⟨g,hg1,hg2⟩:=cO.1 hg
   exact bR.2 ⟨g,eB hg1,hg2⟩
  have hnT:o∉p.T:=fun q=>(aX.1 (aX.1 h.2.nd).2.1).2.2 o q o hm rfl
  exact pready_D t o h hc' ht hf hg hI (h.2.fit o (aj _ (aj _ hm))) hnT
end
end
section
open Go.RowKit Go.Maps
attribute [local go_sem ↓] aO aP
def nJ (mn:Int) (O:List (List Int)) (e:Nat) (v:Int):Nat→De→List Ob→De×List Ob×Nat
 |0,d,R=>(d,R,0)
 |n+1,d,R=>if (takeD mn O e d 0 v true).2.1=0 then nJ mn O e v n (takeD mn O e d 0 v true).1 (R++[(takeD mn O e d 0 v true).2.2])
  else(lF e (takeD mn O e d 0 v true).1 R,[],(takeD mn O e d 0 v true).2.1)
theorem wW {mn:Int} {O:List (List Int)} {e:Nat} {v:Int} {n:Nat} {d:De} {R:List Ob} (h:(takeD mn O e d 0 v true).2.1=0):
 nJ mn O e v (n+1) d R=nJ mn O e v n (takeD mn O e d 0 v true).1 (R++[(takeD mn O e d 0 v true).2.2]):=by rw[nJ,if_pos h]
theorem fillP_no {mn:Int} {O:List (List Int)} {e:Nat} {v:Int} {n:Nat} {d:De} {R:List Ob} (h:(takeD mn O e d 0 v true).2.1≠0):
 nJ mn O e v (n+1) d R=(lF e (takeD mn O e d 0 v true).1 R,[],(takeD mn O e d 0 v true).2.1):=by rw[nJ,if_neg h]
def sU (d:De) (most:Nat) (R:List Ob):Po:=⟨d,most,R,[],[],[],0,false⟩
section
variable {pd pc pz e:Nat} {mn:Int} {O:List (List Int)} {ev:Nat→Addr} {w0:World} {E:uo pd pc pz e mn O ev w0} {X F:List Nat} {w w':World} {pp:Nat} {p:Po} {d:De}
def PNewPost (E:uo pd pc pz e mn O ev w0) (X F:List Nat) (w:World) (most:Nat) (r:De×List Ob×Nat) (en:Ending) (w':World):Prop:=
 (r.2.2≠0∧EPost E.S X F r.1 w (.tuple #[.pointer none,iJ ev r.2.2]) en w')∨
 (r.2.2=0∧∃pp,en= .returned (.tuple #[.pointer (some ⟨pp,0,none⟩),.nilIface])∧w.heap.size≤pp∧jm E X F pp (sU r.1 most r.2.1) w w')
theorem jY.put {σ:Type} {w0 w W W':World} {E:FEnv σ w0} {X0 F L X Y G:List Nat} {d:σ} (h:jY E X0 F w L X d W) (k:Keep G W W') (hG: ∀g∈G,g∈L) (hY: ∀y∈Y,W.heap.size≤y∧y<W'.heap.size):jY E X0 F w (Y++L) (Y++X) d W':=by
 have z:=h.k.size
 refine⟨by rw[bK];exact E.Bo h.t k (fun g q=>av _ (hG g q)) hY,h.k.trans k (fun s q=>.inr (h.l s (hG s q)).1),fun x q=> ?_,fun x q=>aj _ (h.x2 x q),fun b q=> ?_⟩
 ·rcases aC.1 q with r|r
  ·have:=(hY x r).1;exact .inr om
  ·exact h.x1 x r
 ·rcases aC.1 q with r|r
  ·have:=hY b r;exact⟨om,this.2⟩
  ·exact⟨(h.l b r).1,aF (h.l b r).2 k.size⟩
structure uV (E:uo pd pc pz e mn O ev w0) (X F:List Nat) (w:World) (pp bt bg n:Nat) (L X':List Nat) (d:De) (R:List Ob) (vr:Value) (wr:World):Prop where
 run:jY E.toFEnv X F w L X' d wr
 mem:pp∈L∧bt∈L∧bg∈L∧∀y∈gY vr,y∈L
 c:gX wr pp (iD pd bt bg vr (.slice none 0 0) (sU d n R))
 t:jW Tryz.prog 49 wr bt (uZ [])
 g:jW Tryz.prog 3 wr bg (uT [])
 row:wr.ownsRow w.heap.size 49 2 vr R.length (lU R)
 ne:pp≠bt∧pp≠bg∧bt≠bg∧pp∉gY vr∧bt∉gY vr∧bg∉gY vr
section
variable {pp bt bg n:Nat} {L X' S:List Nat} {R:List Ob} {vr vr':Value} {wr w4 w5:World} {d':De} {r:Value} {en:Ending}
theorem uV.keep (h:uV E X F w pp bt bg n L X' d R vr wr) {L' X2:List Nat} (hf:jY E.toFEnv X F w L' X2 d' w4) (hL: ∀y∈L,y∈L') (k:Keep S wr w4) (hs: ∀s∈S,s∉L):uV E X F w pp bt bg n L' X2 d' R vr w4:=
 ⟨hf,⟨hL _ h.mem.1,hL _ h.mem.2.1,hL _ h.mem.2.2.1,fun y q=>hL _ (h.mem.2.2.2 y q)⟩,h.c.keep k (fun q=>hs _ q h.mem.1),h.t.keep k (fun q=>hs _ q h.mem.2.1),h.g.keep k (fun q=>hs _ q h.mem.2.2.1),gZ h.row k (fun s q r=>hs s q (h.mem.2.2.2 s r)),h.ne⟩
theorem uV.go (h:uV E X F w pp bt bg n L X' d R vr wr) (k:Below wr.heap.size wr w4):uV E X F w pp bt bg n L X' d R vr w4:=h.keep (h.run.go k) (fun _ q=>q) (Keep.of (S:=[]) k) (fun _ q=>by cases q)
theorem uV.act (h:uV E X F w pp bt bg n L X' d R vr wr) (hp:EPost E.S X' (L++F) d' wr r en w4):en= .returned r∧∃X2,uV E X F w pp bt bg n L X2 d' R vr w4:=by
 obtain⟨h1,X2,h2,h3⟩:=h.run.act hp
 exact⟨h1,X2,h.keep h2 (fun _ q=>q) h3 (fun s q r=>(iO.1 q).2 (av _ r))⟩
theorem uV.app {m:Nat} {o:Ob} {q:Option Addr} {k:Nat} (h:uV E X F w pp bt bg n L X' d R vr wr) (hm:m=R.length) (hown:w4.ownsRow w.heap.size 49 2 (.slice q (m+1) k) (m+1) (lU (R++[o]))) (hg:wr.grownBy w4 vr.ownBlock)
 (hz:(Value.slice q (m+1) k).ownBlock=vr.ownBlock∨(Value.slice q (m+1) k).ownBlock=some wr.heap.size) (h5:w5=w4.setCell ⟨pp,2,none⟩ (.slice q (m+1) k)):
 ∃L' X2,uV E X F w pp bt bg n L' X2 d (R++[o]) (.slice q (m+1) k) w5:=by
 obtain⟨m1,m2,m3,m4,m5,m6⟩:=h.ne
 have k4:=iK hg
 have k5:Keep [pp] w4 w5:=by rw[h5];exact(Keep.refl _ _).setCell (p:=⟨pp,2,none⟩) (.inl sI) _
 have z4:=k4.size;have z5:=k5.size
 have hmem:=h.mem
 have lp:=h.run.l _ hmem.1;have lt:=h.run.l _ hmem.2.1;have lg:=h.run.l _ hmem.2.2.1
 have K:Keep (pp::gY vr) wr w5:=(k4.mono (fun s r=>au _ r)).then (k5.mono (fun s r=>by simp at r;subst r;simp))
 have hown': ∀y∈gY (Value.slice q (m+1) k),y∈gY vr∨y=wr.heap.size:=fun y hy=>by
  rcases hz with e1|e1
  ·left;unfold gY at hy ⊢;rw[e1] at hy;exact hy
  ·right;unfold gY at hy;rw[e1] at hy;simpa using hy
 have hlt: ∀y∈gY (Value.slice q (m+1) k),y<w5.heap.size:=fun y hy=>by
  have:(Value.slice q (m+1) k).ownBlock=some y:=by
   unfold gY at hy
   cases e1:(Value.slice q (m+1) k).ownBlock with
   |none=>rw[e1] at hy;simp at hy
   |some b=>rw[e1] at hy;simp at hy;rw[hy]
  have:=(hown.lt y this).2;omega
 have hY: ∀y∈(gY (Value.slice q (m+1) k)).filter (fun y=>decide (wr.heap.size≤y)),wr.heap.size≤y∧y<w5.heap.size:=fun y hy=>by
  obtain⟨q1,q2⟩:=bH.1 hy
  exact⟨of_decide_eq_true q2,hlt y q1⟩
 have far: ∀y,y<wr.heap.size→y∉gY vr→y∉gY (Value.slice q (m+1) k):=fun y h1 h2 h3=>by
  rcases hown' y h3 with r|r
  ·exact h2 r
  ·omega
 have kp: ∀y,y≠pp→y∉gY vr→y∉pp::gY vr:=fun y h1 h2 h3=>by
  rcases aB.1 h3 with r|r
  ·exact h1 r
  ·exact h2 r
 refine⟨_,_,h.run.put K (fun g r=> ?_) hY,⟨aj _ hmem.1,aj _ hmem.2.1,aj _ hmem.2.2.1,fun y hy=> ?_⟩,?_,?_,?_,?_,⟨m1,m2,m3,far pp lp.2 m4,far bt lt.2 m5,far bg lg.2 m6⟩⟩
 ·rcases aB.1 r with t|t
  ·rw[t];exact hmem.1
  ·exact hmem.2.2.2 g t
 ·rcases hown' y hy with r|r
  ·exact aj _ (hmem.2.2.2 y r)
  ·exact av _ (bH.2 ⟨hy,decide_eq_true om⟩)
 ·rw[h5]
  exact(h.c.keep k4 m4).store 2 (.slice q (m+1) k) (by simp[iD])
 ·exact h.t.keep K (kp bt m1.symm m5)
 ·exact h.g.keep K (kp bg m2.symm m6)
 ·have:=gZ hown k5 (fun s r t=>by simp at r;exact far pp lp.2 m4 (r▸t))
  rw[show(R++[o]).length=m+1 by rw[hm];simp]
  exact this
end
theorem uV.fin {pp bt bg n:Nat} {L X':List Nat} {R:List Ob} {vr:Value} {wr:World} (h:uV E.dr X F w pp bt bg n L X' d R vr wr) (hi:kJ e (sU d n R)) (hX: ∀x∈X,x<w.heap.size) (hF: ∀f∈F,f∈X):jm E.dr X F pp (sU d n R) w wr:=by
 obtain⟨m1,m2,m3,m4,m5,m6⟩:=h.ne
 obtain⟨l1,l2,l3,l4⟩:=h.mem
 have lx: ∀f∈L,f∈X':=fun f q=>E.dr.nY h.run.t f (av _ q)
 have xl: ∀x∈X,x∉L:=fun x q r=>by have:=hX x q;have:=(h.run.l x r).1;omega
 have inY: ∀y,y∈X'→y∉gY vr→y∈X'.filter (fun y=>decide (y∉gY vr)):=fun y a b=>bH.2 ⟨a,decide_eq_true b⟩
 have e0:gY (Value.slice none 0 0)=[]:=rfl
 have hp: ∀y∈pws pp bt bg (.slice none 0 0),y∈L∧y∉gY vr:=fun y q=>by
  unfold pws at q
  rw[e0] at q
  simp at q
  rcases q with rfl|rfl|rfl
  ·exact⟨l1,m4⟩
  ·exact⟨l2,m5⟩
  ·exact⟨l3,m6⟩
 refine⟨X'.filter (fun y=>decide (y∉gY vr)),⟨⟨bt,bg,vr,.slice none 0 0,FEnv.drop (E:=E.toFEnv) h.run.t (fun y q=>(bH.1 q).1) (fun x q=> ?_) (fun g q=> ?_),⟨h.c,lX h.row (fun g q r=> ?_),h.t,bG _ _ _ _,h.g,?_,fun y q=> ?_⟩,fun f q r=>xl f (hF f q) (hp f r).1⟩,hi⟩,h.run.k,fun x q=>h.run.x1 x (bH.1 q).1,fun x q=>inY x (h.run.x2 x q) fun r=>xl x q (l4 x r)⟩
 ·by_cases r:x∈gY vr
  ·exact .inr (av _ (l4 x r))
  ·exact .inl (inY x q r)
 ·rcases aC.1 q with r|r
  ·exact⟨av _ (hp g r).1,inY g (lx g (hp g r).1) (hp g r).2⟩
  ·exact⟨aj _ r,inY g (h.run.x2 g (hF g r)) fun t=>xl g (hF g r) (l4 g t)⟩
 ·have:=(bH.1 r).2
  simp[gY,q] at this
 ·unfold pws
  rw[e0]
  simp
  exact⟨⟨m1,m2⟩,m3⟩
 ·have:=E.dr.lim h.run.t y (lx y (hp y q).1)
  exact this
theorem pnew_any (v:Int) (n:Nat) (h:E.dr.S X F d w) (hn:1≤n∧n≤16) {l:List Ob} (hm:MoI e l d) (hH:0<d.H.length):
 Calls Tryz.prog 49 #[.pointer (some ⟨pd,0,none⟩),.int .i64 v,.int .i64 n] w (PNewPost E.dr X F w n (nJ mn O e v n d [])):=by
 obtain⟨n1,n16⟩:=hn
 have d0:decide ((n:Int)<1)=false:=decide_eq_false om
 have d1:decide ((16:Int)<(n:Int))=false:=decide_eq_false om
 have d2: ¬((n:Int)<1):=om
 have d3: ¬((16:Int)<(n:Int)):=om
 have hmm:= @run_makeMap Tryz.prog
 have hXl:=ah (fun x hx=>(E.dr.lim h x hx).2: ∀x∈X,x<w.heap.size)
 have hFX:=ah (E.dr.nY h)
 obtain⟨W3,hW3⟩: ∃W3,((w.alloc (.map #[] 0)).alloc (.map #[] 0)).alloc (.cells #[.pointer (some ⟨pd,0,none⟩),.int .i64 n,.slice none 0 0,.map (some w.heap.size),.slice none 0 0,.map (some (w.heap.size+1)),.int .i64 0,.bool false] 259)=W3:=⟨_,rfl⟩
 have START:uV E.dr X F w (w.heap.size+2) w.heap.size (w.heap.size+1) n [w.heap.size+2,w.heap.size+1,w.heap.size] ((w.heap.size+2)::(w.heap.size+1)::w.heap.size::X) d [] (.slice none 0 0) W3:=by
  subst hW3
  have r1:=(jY.start h).box (.map #[] 0)
  have r2:=r1.box (.map #[] 0)
  have r3:=r2.box (.cells #[.pointer (some ⟨pd,0,none⟩),.int .i64 n,.slice none 0 0,.map (some w.heap.size),.slice none 0 0,.map (some (w.heap.size+1)),.int .i64 0,.bool false] 259)
  have z1:(w.alloc (.map #[] 0)).heap.size=w.heap.size+1:=sI
  have z2:((w.alloc (.map #[] 0)).alloc (.map #[] 0)).heap.size=w.heap.size+2:=sI
  rw[z1,z2] at r3
  have M1:jW Tryz.prog 49 (w.alloc (.map #[] 0)) w.heap.size (uZ []):=jW.made _ _ _
  have M2:jW Tryz.prog 3 ((w.alloc (.map #[] 0)).alloc (.map #[] 0)) (w.alloc (.map #[] 0)).heap.size (uT []):=jW.made _ _ _
  rw[z1] at M2
  refine⟨r3,⟨sI,sI,sI,fun y q=>by cases q⟩,gX.mk_ _ _ _ z2,(M1.below iq).below iq,M2.below iq,bG _ _ _ _,?_⟩
  refine⟨om,om,om,by simp[gY,Value.ownBlock],by simp[gY,Value.ownBlock],by simp[gY,Value.ownBlock]⟩
 have HS:=ah START
 have hI:=E.dr.inv h
 have HI0:Hid (lV e d∧nJ mn O e v n d []=nJ mn O e v (n-0) d []∧([]:List Ob).length=0∧([]:List Ob).Nodup∧(∀o∈([]:List Ob),oM o)∧0<d.H.length∧∃l,MoI e l d∧∀x∈([]:List Ob),x∈l):=⟨hI,rfl,rfl,fC,fun o q=>(by cases q),hH,l,hm,fun x q=>(by cases q)⟩
 obtain⟨bt,hbt⟩: ∃bt,w.heap.size=bt:=⟨_,rfl⟩
 clear START hI hm hH h hbt
 go_enter Tryz.func49,Tryz.ntmps49
 go_wp2_with fail
 clear hmm hW3 d0 d1 d2 d3
 go_loopw [30] (fun iv wr=>∃(i:Nat) (L X':List Nat) (d':De) (R:List Ob) (q:Option Addr) (k:Nat),i≤n∧iv= .int .i64 i∧Hid (uV E.dr X F w (w.heap.size+2) w.heap.size (w.heap.size+1) n L X' d' R (.slice q i k) wr)∧
  Hid (lV e d'∧nJ mn O e v n d []=nJ mn O e v (n-i) d' R∧R.length=i∧R.Nodup∧(∀o∈R,oM o)∧0<d'.H.length∧∃l,MoI e l d'∧∀x∈R,x∈l)) (fun iv _=>n-(intOf iv).toNat)
 case atStart=>exact⟨0,_,_,_,_,_,_,bC _,by go_num,HS,HI0⟩
 case round=>
  obtain⟨i,L,X',d',R,q,k,hin,rfl,HP,HI⟩:=hrel
  by_cases hlt:i<n
  ·have hli:(i:Int)<(n:Int):=by omega
   have hl0:(0:Int)≤(i:Int):=om
   obtain⟨dn,c,o,ht⟩: ∃dn c o,takeD mn O e d' 0 v true=(dn,c,o):=⟨_,_,_,rfl⟩
   have TK0:=E.dr.take 0 v true HP.out.run.t
   rw[ht] at TK0
   have TK:=ah (show Calls Tryz.prog 37 #[.pointer (some ⟨pd,0,none⟩),.int .i64 0,.int .i64 v,.bool true] wr (EPost E.dr.S X' (L++F) dn wr (.tuple #[.agg #[.int .i64 o.1,.int .i64 o.2],iJ ev c])) from TK0)
   have HT:=ah ht
   have hO:=ah (E.dr.ord HP.out.run.t)
   clear TK0 ht
   go_wp2_with fail
   refine TK.out.mono ?_
   intro r w1 hp
   obtain⟨hr,X2,hP1⟩:=HP.out.act hp
   subst hr
   have hb1:Below w1.heap.size w1 (w1.alloc (bO o)):=by unfold bO;exact iq
   have hPb:=hP1.go hb1
   have LB:gX (w1.alloc (bO o)) w1.heap.size [.int .i64 o.1,.int .i64 o.2]:=gX.mk_ w1 [.int .i64 o.1,.int .i64 o.2] 49 rfl
   obtain⟨Wb,hWb⟩: ∃Wb,w1.alloc (bO o)=Wb:=⟨_,rfl⟩
   obtain⟨b9,hb9⟩: ∃b9,w1.heap.size=b9:=⟨_,rfl⟩
   rw[hWb] at hPb LB
   rw[hb9] at LB
   have x0:=LB.c 0 _ rfl;have x1:=LB.c 1 _ rfl;have xl:=LB.lt
   have x2:=hPb.c.c 2 _ rfl;have xf:=hPb.c.f 2 (by simp[iD]);have xL:=hPb.c.lt
   have HPB:=ah hPb;have HLB:=ah LB
   have hpp:=(hP1.run.l _ hP1.mem.1).2
   have hn9: ∀y∈gY (Value.slice q i k),y<w1.heap.size:=fun y hy=>(hP1.run.l y (hP1.mem.2.2.2 y hy)).2
   rw[hb9] at hn9
   have HN9:=ah hn9
   have HW1:=ah hP1.run.k.size
   clear hp hP1 TK hPb LB hb1 hn9
   by_cases h0:c=0
   ·subst h0
    have e0:iJ ev 0= .nilIface:=rfl
    rw[e0]
    clear e0
    unfold bO at hWb
    have hm0:=HI.out
    have i16:i≤70000:=om
    have NE: ¬(w.heap.size+2=b9):=om
    have NE': ¬(b9=w.heap.size+2):=fun r=>NE r.symm
    go_wp2_with fail
    clear hWb hb9
    refine iN (S:=(fun w'=>w'.cell? ⟨w.heap.size+2,2,none⟩=some (.slice q i k)∧w'.cell? ⟨b9,0,none⟩=some (.int .i64 o.1)∧w'.cell? ⟨b9,1,none⟩=some (.int .i64 o.2))) 8 #[false,false,false,false,false,false,false,false] rfl kR kR (by(try dsimp only);go_keep) (fun hHeld=> ?_)
    simp only[aT,bq]
    refine ctk (i:=0) (v:= ?_) rfl (fun _ _ _ h=>h) (Or.inl ⟨rf,?_⟩) ?_
    rotate_left
    ·(intro w hSw;(try dsimp only at hSw);go_simp<;>with_reducible rfl)
    try simp only[Act.put,pA,pZ,pS]
    refine ctk (i:=1) (v:= ?_) rfl (fun _ _ _ h=>h) (Or.inl ⟨rf,?_⟩) ?_
    rotate_left
    ·(intro w hSw;(try dsimp only at hSw);go_simp<;>with_reducible rfl)
    try simp only[Act.put,pA,pZ,pS]
    refine ctk (i:=2) (v:= ?_) rfl (fun _ _ _ h=>h) (Or.inl ⟨rf,?_⟩) ?_
    rotate_left
    ·(intro w hSw;(try dsimp only at hSw);go_simp<;>with_reducible rfl)
    try simp only[Act.put,pA,pZ,pS]
    refine ctk (i:=3) (v:= ?_) rfl (fun _ _ _ h=>h) (Or.inl ⟨rf,?_⟩) ?_
    rotate_left
    ·(intro w hSw;(try dsimp only at hSw);go_simp<;>with_reducible rfl)
    try simp only[Act.put,pA,pZ,pS]
    refine ctk (i:=4) (v:= ?_) rfl (fun _ _ _ h=>h) (Or.inl ⟨rf,?_⟩) ?_
    rotate_left
    ·(intro w hSw;(try dsimp only at hSw);go_simp<;>with_reducible rfl)
    try simp only[Act.put,pA,pZ,pS]
    refine ctk (i:=5) (v:= ?_) rfl (fun _ _ _ h=>h) (Or.inl ⟨rf,?_⟩) ?_
    rotate_left
    ·(intro w hSw;(try dsimp only at hSw);go_simp<;>with_reducible rfl)
    try simp only[Act.put,pA,pZ,pS]
    refine wpAnyH_ready (rs:=[6]) kR sI ?_
    refine aS (ig rfl) (fun K hK=> ?_) aV
    go_simp
    refine hK.out _ _ (by(try dsimp only);go_keep) (fun hHeld=> ?_)
    clear hK K
    try simp only[Act.put,pA,pZ,pS]
    refine wpAnyH_ready (rs:=[7]) kR sI ?_
    refine aS (ig rfl) (fun K hK=> ?_) aV
    obtain⟨i1,i2,i3,i4,i5,i6,l,i7,i8⟩:=HI.out
    have hD:=HPB.out.go (show Below Wb.heap.size Wb (Wb.alloc (.cells #[.int .i64 o.1,.int .i64 o.2] 49)).drew from iq)
    have hrow:=hD.row
    rw[i3] at hrow
    refine AQ elObj (base:=w.heap.size) (ms:=[.int .i64 o.1,.int .i64 o.2]) rf (.tmp 58) (.tmp 60) rf rf rf hrow rfl (fun j u hj=>qd Wb _ _ _ j u hj) (qg _ _) i16 (by have:=hD.run.k.size;exact this) ?_
    intro q4 k4 w4 iP hg4 hz4
    have c4:=hD.c.keep (iK hg4) hD.ne.2.2.2.1
    have u2:=c4.c 2 _ rfl;have uf:=c4.f 2 (by simp[iD]);have ul:=c4.lt
    have n9:b9∉gY (Value.slice q i k):=fun r=>by have:=HN9.out b9 r;omega
    have L9:=(HLB.out.go (show Below Wb.heap.size Wb (Wb.alloc (.cells #[.int .i64 o.1,.int .i64 o.2] 49)).drew from iq)).keep (iK hg4) n9
    have y0:=L9.c 0 _ rfl;have y1:=L9.c 1 _ rfl
    have HD:=ah hD;have HG4:=ah hg4;have HZ4:=ah hz4
    have HO4:Hid (w4.ownsRow w.heap.size 49 2 (.slice q4 (i+1) k4) (i+1) (lU (R++[o]))):=by rw[kM];exact iP
    have i8': ∀x∈R,x∈mY e d'.c.C:=fun x hx=>(i7.iff x).2 (.inl (i8 x hx))
    rcases MoI.take hO.out i1 i7 0 v true with⟨j1,j2,j3⟩|⟨j1,_⟩
    rotate_left
    ·rw[HT.out] at j1;exact absurd rfl j1
    have ti:=nu (mn:=mn) (O:=O) (k:=0) (v:=v) (u:=true) hO.out i1
    have th:(takeD mn O e d' 0 v true).1.H.length=d'.H.length:=yx
    have INV:Hid (lV e dn∧nJ mn O e v n d []=nJ mn O e v (n-(i+1)) dn (R++[o])∧(R++[o]).length=i+1∧(R++[o]).Nodup∧(∀x∈R++[o],oM x)∧0<dn.H.length∧∃l,MoI e l dn∧∀x∈R++[o],x∈l):=by
     have e1:n-i=(n-(i+1))+1:=om
     rw[e1,wW j1] at i2
     rw[HT.out] at i2 ti j2 j3 th
     have hoR:o∉R:=fun q=>j2 (i8 o q)
     have hs: ∀x∈R++[o],x∈l++[o]:=fun x hx=>by
      rcases aC.1 hx with q|q
      ·exact av _ (i8 x q)
      ·exact aj _ q
     refine⟨ti,i2,by simp[i3],?_,fun x hx=>DJ ti.c ((j3.iff x).2 (.inl (hs x hx))),by rw[th];exact i6,l++[o],j3,hs⟩
     rw[aX]
     exact⟨i4,sI,fun a ha b hb=>by simp at hb;subst hb;exact fun q=>hoR (q▸ha)⟩
    have I3:=ah i3
    clear iP hg4 hz4 hD c4 L9 n9 i1 i2 i3 i4 i5 i6 i7 i8 i8' j1 j2 j3 ti th hrow hm0
    refine hK.out _ _ (by(try dsimp only);go_keep) (fun hHeld=> ?_)
    clear hK K
    try simp only[Act.put,pA,pZ,pS]
    refine wpAnyH_done kR ?_ _
    simp only[kH,aL,aW]
    clear hHeld x0 x1 x2 xf xL xl
    go_wp2
    go_roundw
    case rel=>
     obtain⟨L2,X3,hP5⟩:=HD.out.app I3.out.symm HO4.out HG4.out HZ4.out rfl
     exact⟨i+1,L2,X3,dn,R++[o],q4,k4,om,by go_num,hP5,INV⟩
    case measure=>simp[intOf];omega
   ·obtain⟨c',rfl⟩: ∃c',c=c'+1:=⟨c-1,om⟩
    have e0:iJ ev (c'+1)= .iface 434 (.pointer (some (ev (c'+1)))):=rfl
    rw[e0]
    unfold bO at hWb
    have NE: ¬(w.heap.size+2=b9):=om
    have NE': ¬(b9=w.heap.size+2):=fun r=>NE r.symm
    obtain⟨i1,i2,i3,i4,i5,i6,l,i7,i8⟩:=HI.out
    have I5:=ah i5
    have I3:=ah i3
    have FILL:Hid (nJ mn O e v n d []=(lF e dn R,[],c'+1)):=by
     have e1:n-i=(n-(i+1))+1:=om
     rw[e1,fillP_no (by rw[HT.out];exact Nat.succ_ne_zero _)] at i2
     rw[HT.out] at i2
     exact i2
    have START2:Hid (uV E.dr X F w (w.heap.size+2) w.heap.size (w.heap.size+1) n L X2 (lF e dn (R.take 0)) R (.slice q i k) Wb):=HPB.out
    have ALL:Hid (R.take i=R):=by show _=_;rw[←I3.out];simp
    clear i1 i2 i3 i4 i5 i6 i7 i8 e0 x0 x1 xl
    go_wp2_with fail
    clear hWb hb9
    clear x2 xf xL
    go_loopw [45] (fun jv ws=>∃(j:Nat) (X3:List Nat),j≤i∧jv= .int .i64 j∧Hid (uV E.dr X F w (w.heap.size+2) w.heap.size (w.heap.size+1) n L X3 (lF e dn (R.take j)) R (.slice q i k) ws)) (fun jv _=>i-(intOf jv).toNat)
    case atStart=>exact⟨0,X2,bC _,by go_num,START2⟩
    case round=>
     obtain⟨j,X3,hji,rfl,HQ⟩:=hrel
     by_cases hjt:j<i
     ·obtain⟨a,ha⟩: ∃a,R[j]?=some a:=⟨R[j]'(by rw[I3.out];exact hjt),aA _⟩
      have ro:=lX (X:=[]) HQ.out.row (fun g _ r=>by cases r)
      obtain⟨g,off',eg,_,gl,y0,y1⟩:=ro.at ha
      subst eg
      have fo:oM a:=I5.out a (aD ha)
      have GV:Hid (∀W,Below wr.heap.size wr W→Calls Tryz.prog 39 #[.pointer (some ⟨pd,0,none⟩),.int .i64 0,.agg #[.int .i64 a.1,.int .i64 a.2]] W fun r w'=>(∃v,r= .returned v)∧∃X4,uV E.dr X F w (w.heap.size+2) w.heap.size (w.heap.size+1) n L X4 (lF e dn (R.take (j+1))) R (.slice (some ⟨g,off',none⟩) i k) w'):=fun W hW=>by
       have tw:=HQ.out.go hW
       refine(E.dr.give 0 a tw.run.t (by have:=fo.2;unfold lW at this;omega) (by have:=fo.2;unfold lW at this;omega)).mono fun r w' hp=> ?_
       obtain⟨hr,X4,h4⟩:=tw.act hp
       exact⟨⟨_,hr⟩,X4,by rw[wV ha];exact h4⟩
      have hji':(j:Int)<(i:Int):=om
      have hj0:(0:Int)≤(j:Int):=om
      clear ha fo HQ ro
      go_wp2_with fail
      refine(GV.out _ iq).mono ?_
      rintro r w5 ⟨⟨v5,rfl⟩,X5,p5⟩
      have HP5:=ah p5
      clear p5 GV y0 y1
      go_wp2
      go_roundw
      case rel=>exact⟨j+1,X5,om,by go_num,HP5⟩
      case measure=>simp[intOf];omega
     ·obtain rfl:j=i:=by omega
      have HQ':=HQ.out
      rw[ALL.out] at HQ'
      have HQ2:=ah HQ'
      clear HQ' HQ
      go_wp2
      go_ret2
      rw[FILL.out]
      exact .inl ⟨Nat.succ_ne_zero _,HQ2.out.run.fin⟩
  ·obtain rfl:i=n:=by omega
   go_wp2
   go_ret2
   obtain⟨i1,i2,i3,i4,i5,i6,l,i7,i8⟩:=HI.out
   have e0:i-i=0:=om
   rw[e0] at i2
   rw[i2]
   refine .inr ⟨rfl,w.heap.size+2,rfl,om,HP.out.fin ?_ hXl.out hFX.out⟩
   exact⟨i1,⟨l,i7,fun x hx=>i8 x (by simpa[Po.obs,sU] using hx)⟩,by simpa[Po.obs,sU] using i4,⟨n1,n16⟩,by show R.length≤i;omega,by simp[sU],List.Pairwise.nil,fun t q=>(by cases q),fC,fun g q=>(by cases q),fun g q=>(by cases q),bZ _⟩
end
end
section
theorem okN_free {k:Int} {x:Nd} (h:Inv x.n x.F x.T) (k0:0≤k):okN 0 k false x=okN 0 k true x:=by
 unfold okN mayN
 cases hb:jA k x.F with
 |none=>simp
 |some b=>
  have h1:=h.yQ k0 hb
  have h2:=jH (oV k b x.F)
  have:decide ((0:Int)≤jM x.F-sz k)=true:=decide_eq_true om
  rw[this];simp
theorem Bd {O:List (List Int)} {L:List Nd} (hL: ∀x∈L,Inv x.n x.F x.T) (v k:Int):iQ 0 O L v k false=iQ 0 O L v k true:=by
 unfold iQ
 split
 ·rfl
 ·rename_i hv
  have:p9 0 k false L=p9 0 k true L:=by
   funext D
   unfold p9
   congr 1
   funext j
   unfold yZ
   split
   ·rename_i x hx;exact okN_free (hL x (aD hx)) om
   ·rfl
  rw[this]
theorem Bf {O:List (List Int)} {e:Nat} {c:Ca} (h:nS e c) (v:Int):takeC 0 O e c v false=takeC 0 O e c v true:=by
 unfold takeC
 rw[Bd h.zi]
theorem uw {O:List (List Int)} {e:Nat} {d:De} (h:lV e d) (k v:Int):takeD 0 O e d k v false=takeD 0 O e d k v true:=by
 unfold takeD
 rw[Bf h.c]
structure uy (p e n:Nat) (d:De):Prop where
 inv:lV e d
 full:jS p e n d.c
 hands:d.H=[([],[])]
 pile:d.P=[]
section
variable {p e n m:Nat} {d:De} {l R:List Ob} {q:Po} {o:Ob}
theorem uy.hand (h:uy p e n d):jD d 0=some ([],[]):=by unfold jD;rw[if_neg om,h.hands];rfl
theorem uy.max (h:uy p e n d) (h1:1≤e) (h2:e≤64):n≤p*iG e:=by
 have a:=h.full.max;have b:=h.full.le
 have c:d.c.C.length*iG e≤p*iG e:=fG _ b
 omega
theorem uy.take (hO:nM [[0]] 1) (h:uy p e n d) (hn:n<p*iG e) (u:Bool):
 (takeD 0 [[0]] e d 0 0 u).2.1=0∧uy p e (n+1) (takeD 0 [[0]] e d 0 0 u).1:=by
 have e1:takeD 0 [[0]] e d 0 0 u=takeD 0 [[0]] e d 0 0 true:=by cases u;exact uw h.inv 0 0;rfl
 rw[e1]
 obtain⟨t1,t2,t3,t4,t5,t6,t7⟩:=ls_take hO h.inv h.full hn h.hand h.pile
 exact⟨t1,t7,t6,t4.trans h.hands,t5⟩
theorem uy.stop (hO:nM [[0]] 1) (h:uy p e n d) (hn:n=p*iG e) (u:Bool):takeD 0 [[0]] e d 0 0 u=(d,5,(0,0)):=by
 have e1:takeD 0 [[0]] e d 0 0 u=takeD 0 [[0]] e d 0 0 true:=by cases u;exact uw h.inv 0 0;rfl
 rw[e1]
 have ld:(jc ([],[]) d.P).1.1.getLast?=none:=by rw[h.pile];rfl
 have hs:=(jS.stop (mn:=0) (O:=[[0]]) (hn▸h.full) hO).1
 rw[jl h.hand ld,hs]
structure yG (p e r:Nat) (out:List Ob) (q:Po):Prop where
 d:uy p e (q.R.length+q.T.length) q.d
 t:q.T=out
 r:q.R.length≤r∧(q.R.length=r∨q.R.length+q.T.length=p*iG e)
 w:q.W=[]
 g:q.G=[]
 la:q.last=0
 cl:q.cl=false
theorem uy.right (h:uy p e n q.d):kV q 0=true∧wQ q 0=true:=by
 obtain⟨x,hx,_⟩:=h.full.one
 unfold kV wQ
 rw[h.hands,hx]
 exact⟨by decide,sI⟩
theorem yG.take {r:Nat} {out:List Ob} (hO:nM [[0]] 1) (h:yG p e r out q) (hn:out.length<p*iG e):
 (mG 0 [[0]] e q 0 0).2.1=0∧yG p e r (out++[(mG 0 [[0]] e q 0 0).2.2]) (mG 0 [[0]] e q 0 0).1∧(mG 0 [[0]] e q 0 0).1.most=q.most:=by
 obtain⟨r1,r2⟩:=h.d.right
 have e1:=h.d.inv.c.e1;have e2:=h.d.inv.c.e2
 have hm:=h.d.max e1 e2
 have ht:q.T.length=out.length:=by rw[h.t]
 unfold mG
 rw[if_neg (by rw[h.cl];simp),if_neg (by rw[r1,r2];simp),if_neg (by rw[h.w];simp)]
 by_cases hf:q.R.length+q.T.length<p*iG e
 ·obtain⟨t1,t2⟩:=h.d.take hO hf false
  rw[if_pos t1]
  refine⟨rfl,⟨?_,by simp only[h.t],⟨h.r.1,.inl (h.r.2.resolve_right om)⟩,h.w,h.g,h.la,h.cl⟩,rfl⟩
  simp only[bM,bW]
  rw[show q.R.length+(q.T.length+1)=q.R.length+q.T.length+1 by omega]
  exact t2
 ·have hs:=h.d.stop hO om false
  rw[hs]
  rw[if_neg sI]
  obtain⟨R',o,hR⟩: ∃R' o,q.R=R'++[o]:=by
   rcases dY q.R with hR|⟨R',o,hR⟩
   ·rw[hR] at hf;simp at hf;omega
   ·exact⟨R',o,by simpa using hR⟩
  have hg:q.R.getLast?=some o:=by rw[hR];simp
  have hl:q.R.length=R'.length+1:=by rw[hR];simp
  simp only[hg]
  have hd:q.R.dropLast=R':=by rw[hR];simp
  rw[hd]
  refine⟨trivial,⟨?_,by simp only[h.t],⟨by have:=h.r.1;simp only;omega,.inr ?_⟩,h.w,h.g,h.la,h.cl⟩,trivial⟩
  ·simp only[bM,bW]
   rw[show R'.length+(q.T.length+1)=q.R.length+q.T.length by omega]
   exact h.d
  ·simp only[bM,bW];omega
def upTo (a n:Nat):List Int:=(List.range n).map fun i=>((a+i+1:Nat):Int)
theorem pY (a n:Nat):(upTo a n).length=n:=by simp[upTo]
theorem DR (a n:Nat):upTo a (n+1)=upTo a n++[((a+n+1:Nat):Int)]:=by simp[upTo,List.range_succ]
theorem wX (a n:Nat):upTo a (n+1)=((a+1:Nat):Int)::upTo (a+1) n:=by
 unfold upTo
 rw[List.range_succ_eq_map]
 simp only[bF,List.map_map]
 congr 1
 apply List.map_congr_left
 intro i _
 simp only[Function.comp]
 omega
theorem upTo_mem {a n:Nat} {x:Int} (h:x∈upTo a n):(a:Int)+1≤x:=by
 unfold upTo at h
 obtain⟨i,_,rfl⟩:=bR.1 h
 omega
structure nX (p e:Nat) (out:List Ob) (s k:Nat) (q:Po):Prop where
 d:uy p e (p*iG e) q.d
 t: ∀x∈out,x∈q.T
 r:q.R=[]
 w:q.W=upTo s k
 g:q.G=[]
 la:q.last=((s+k:Nat):Int)
 cl:q.cl=false
theorem yG.full {r:Nat} {out:List Ob} (h:yG p e r out q) (hn:out.length=p*iG e):nX p e out 0 0 q:=by
 have hm:=h.d.max h.d.inv.c.e1 h.d.inv.c.e2
 have ht:q.T.length=out.length:=by rw[h.t]
 have hR:q.R=[]:=dF.1 om
 have hd:=h.d
 rw[show q.R.length+q.T.length=p*iG e by omega] at hd
 exact⟨hd,fun x hx=>by rw[h.t];exact hx,hR,by rw[h.w];rfl,h.g,by rw[h.la];rfl,h.cl⟩
theorem nX.wait {out:List Ob} {k:Nat} (hO:nM [[0]] 1) (h:nX p e out 0 k q) (hk:k<8):
 (mG 0 [[0]] e q 0 0).2.1=8∧nX p e out 0 (k+1) (mG 0 [[0]] e q 0 0).1:=by
 obtain⟨r1,r2⟩:=h.d.right
 have hs:=h.d.stop hO rfl false
 have key: ∀q',nX p e out 0 k q'→(lM q').2=8∧nX p e out 0 (k+1) (lM q').1:=fun q' hq=>by
  unfold lM
  rw[if_neg (by rw[hq.w,pY];omega)]
  refine⟨rfl,hq.d,hq.t,hq.r,?_,hq.g,?_,hq.cl⟩
  ·rw[DR,←hq.w];simp only;rw[hq.la];simp
  ·simp only;rw[hq.la];simp
 unfold mG
 rw[if_neg (by rw[h.cl];simp),if_neg (by rw[r1,r2];simp)]
 by_cases hw:q.W≠[]
 ·rw[if_pos hw];exact key q h
 ·rw[if_neg hw,hs,if_neg sI,h.r]
  simp only[List.getLast?_nil]
  exact key (q.atD q.d) h
theorem nX.give {out:List Ob} {s k:Nat} (h:nX p e out s (k+1) q) (ho:o∈out):
 (oI e q 0 o).2=0∧(oI e q 0 o).1.last=q.last∧(oI e q 0 o).1.W=upTo (s+1) k∧(lN (oI e q 0 o).1 ((s:Int)+1)).2=(0,true,o)∧nX p e out (s+1) k (lN (oI e q 0 o).1 ((s:Int)+1)).1:=by
 obtain⟨r1,r2⟩:=h.d.right
 have hw:=h.w
 rw[wX] at hw
 have e1:oI e q 0 o=(⟨q.d,q.most,q.R,q.T.erase o,upTo (s+1) k,q.G++[(((s+1:Nat):Int),o)],q.last,q.cl⟩,0):=by
  unfold oI
  rw[if_neg (by rw[h.cl];simp),if_neg (by rw[r1];simp),if_pos (h.t o ho)]
  unfold Dw
  rw[hw]
 rw[e1]
 have es:(s:Int)+1=((s+1:Nat):Int):=om
 have e2:lN ⟨q.d,q.most,q.R,q.T.erase o,upTo (s+1) k,q.G++[(((s+1:Nat):Int),o)],q.last,q.cl⟩ ((s:Int)+1)=(⟨q.d,q.most,q.R,q.T.erase o++[o],upTo (s+1) k,[],q.last,q.cl⟩,0,true,o):=by
  unfold lN
  rw[if_neg (by simp only;rw[h.cl];simp),if_neg (fun r=>by have:=upTo_mem r;omega)]
  have ef:oJ (q.G++[(((s+1:Nat):Int),o)]) ((s:Int)+1)=some o:=by
   rw[h.g,es];unfold oJ;simp
  have ed:delG (q.G++[(((s+1:Nat):Int),o)]) ((s:Int)+1)=[]:=by
   rw[h.g,es];unfold delG;simp
  simp only[ef]
  unfold Po.fetch
  simp only[ed]
 rw[e2]
 refine⟨rfl,rfl,rfl,rfl,h.d,fun x hx=> ?_,h.r,rfl,rfl,?_,h.cl⟩
 ·by_cases q':x=o
  ·subst q';exact aj _ sI
  ·exact av _ ((List.mem_erase_of_ne q').2 (h.t x hx))
 ·show q.last=_
  rw[h.la];omega
theorem uy.fill (hO:nM [[0]] 1): ∀(k:Nat) {n:Nat} {d:De} {R:List Ob},uy p e n d→n+k≤p*iG e→(nJ 0 [[0]] e 0 k d R).2.2=0∧uy p e (n+k) (nJ 0 [[0]] e 0 k d R).1∧(nJ 0 [[0]] e 0 k d R).2.1.length=R.length+k
 |0,n,d,R,h,hk=>⟨rfl,h,rfl⟩
 |k+1,n,d,R,h,hk=>by
  obtain⟨t1,t2⟩:=h.take hO om true
  rw[wW t1]
  obtain⟨a,b,c⟩:=uy.fill hO k (R:=R++[(takeD 0 [[0]] e d 0 0 true).2.2]) t2 om
  refine⟨a,by rw[show n+(k+1)=n+1+k by omega];exact b,by rw[c];simp;omega⟩
end
end
section
open Go.RowKit Go.Maps
attribute [local go_sem ↓] aO aP
theorem Bg {B:Nat} {ev:Nat→Addr} (i:Nat) (n:Int) (w:World) (hE:mg B ev w) (i2:i≤10):
 Calls Tryz.prog 51 #[iJ ev i,.int .i64 n] w fun e w'=>e= .returned (.bool (decide ((i:Int)=n)))∧Below w.heap.size w w':=by
 obtain⟨m,hm⟩: ∃m:Int,m=(i:Int):=⟨_,rfl⟩
 have cc:=code_any i w hE i2
 rw[←hm] at cc
 have CC:=ah cc
 clear cc
 rw[←hm]
 clear hm
 generalize iJ ev i=x at CC
 by_cases h:m=n
 ·rw[decide_eq_true h]
  have hd:(m==n)=true:=by simpa using h
  clear h
  go_enter Tryz.func51,Tryz.ntmps51
  go_wp2_with fail
  refine CC.out.mono ?_
  rintro e w1 ⟨rfl,hb1⟩;obtain⟨c1,f1⟩:=rG hb1;have z1:=hb1.size;try simp at z1 c1 f1
  go_wp2
  go_ret
  exact⟨rfl,iq⟩
 ·rw[decide_eq_false h]
  have hd:(m==n)=false:=by simpa using h
  clear h
  go_enter Tryz.func51,Tryz.ntmps51
  go_wp2_with fail
  refine CC.out.mono ?_
  rintro e w1 ⟨rfl,hb1⟩;obtain⟨c1,f1⟩:=rG hb1;have z1:=hb1.size;try simp at z1 c1 f1
  go_wp2
  go_ret
  exact⟨rfl,iq⟩
theorem wY {B:Nat} {ev:Nat→Addr} (i:Nat) (n:Int) (w:World) (hE:mg B ev w) (i2:i≤10) (h:(i:Int)=n):
 Calls Tryz.prog 51 #[iJ ev i,.int .i64 n] w fun e w'=>e= .returned (.bool true)∧Below w.heap.size w w':=by
 have:=Bg i n w hE i2
 rwa [decide_eq_true h] at this
theorem zX {B:Nat} {ev:Nat→Addr} {w w':World} {p:Nat} {en:Ending} (hE:mg B ev w) (h:Du w p 0 64 1 en w'):
 ∃(w3:World) (pd pdm pc pz:Nat) (X:List Nat) (d:De) (E:uo pd pc pz 64 0 [[0]] ev w3),en= .returned (.tuple #[.pointer (some ⟨pd,0,none⟩),.pointer (some ⟨pdm,0,none⟩),.bool true])∧E.dr.S X [] d w'∧uy p 64 0 d∧MoI 64 [] d∧Below w.heap.size w w'∧Below w.heap.size w w3:=by
 obtain⟨w3,X,pd,pc,pz,gh,pdm,ghm,pcm,pm,gN,x,h1,h2,h3,h4,h5,h6,h7⟩:=h
 have hs:=h2.size;have hB:=hE.size
 have e3:mg w3.heap.size ev w3:=(hE.go h2).up om (aI _)
 have hi:=h3.inv
 have hx:Inv x.n x.F x.T:=hi.c.zi x sI
 refine⟨w3,pd,pdm,pc,pz,X,⟨⟨[x],[]⟩,List.replicate 1 ([],[]),[]⟩,envZ gh pdm ghm pcm pm gN 0 0 ⟨⟨[x],[]⟩,List.replicate 1 ([],[]),[]⟩ e3,h1,drS.of h3,⟨hi,jS.start hx om om h5,rfl,rfl⟩,⟨fC,fun y hy=>(by cases hy),fun y=> ?_⟩,h7,h2⟩
 constructor
 ·intro q;simp[mY] at q
 ·rintro(q|q)
  ·cases q
  ·simp[held,pI] at q
end
end Go.Proofs.YtdcbhlcbiokbeaaGreatDoor
