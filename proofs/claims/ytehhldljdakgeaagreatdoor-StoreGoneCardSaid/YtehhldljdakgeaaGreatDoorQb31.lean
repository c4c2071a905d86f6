/- Lemmas. -/
import Derived.Test.YtehhldljdakgeaaGreatDoorQb01
import Derived.Test.YtehhldljdakgeaaGreatDoorQb24
import Derived.Test.YtehhldljdakgeaaGreatDoorQb30
set_option linter.unusedSimpArgs false
set_option linter.unusedVariables false
set_option maxHeartbeats 16000000
set_option maxRecDepth 100000
namespace Go.Proofs.YtehhldljdakgeaaGreatDoor
open Go.RowKit Go.Maps Go.Proofs.Tryz
attribute [local go_sem ↓] aJ aK
theorem Kh (n:Nat):lH (List.replicate n 0)=List.replicate n (.int .u8 0):=by unfold lH;rw[List.map_replicate];rfl
theorem U3 (n:Nat):madeCells (Value.int .u8 0).cells n=(List.replicate n (Value.int .u8 0)).toArray:=by
 unfold madeCells;apply Array.ext
 ·simp
 ·intro i h1 h2
  simp[Value.cells,Nat.mod_one]
theorem Gl (sz:Nat) (h:sz≤65536) (W:World):(Instr.makeSlice 75 (.int .i64 (sz:Nat)) (.int .i64 (sz:Nat))).run prog W= .ok (.slice (some ⟨W.heap.size,0,none⟩) sz sz) (W.alloc (.cells (lH (List.replicate sz 0)).toArray 5)):=by
 obtain⟨i0,hi0,hz0,hzs,hzb⟩:=info_parts (P:=prog) (e:=5) (z:=.int .u8 0) (size:=1) (bytes:=1) kR;have:=run_make (P:=prog) W 75 5 i0 _ Tryz.underlying75 hi0 hz0 .i64 .i64 (sz:Nat) (sz:Nat) om (bZ _) (by rw[hzb];omega) om;rw[Kh,this,hzs];simp only[bS,Nat.mul_one];rw[U3]
section
variable {w w':World} {S:List Nat} {ps pp bl sz:Nat} {C:BkL} {L:List Bk} {last last':Int} {c:Bk×Nat×Nat} {x y:Bk} {id:Int} {pb gb:Nat}
theorem StB.add (h:StB w ps pp bl sz C L last) (k:Keep S w w') (hs: ∀q∈S,q=ps∨q=bl) (hc:jR w' ps (storeCells' pp sz bl last')) (hx: ∀y∈L,y.id≠x.id)
 (hm:qO prog 3 w' bl ((.int .i64 x.id,.pointer (some ⟨pb,0,none⟩))::D8 (Da C) (.int .i64 x.id))) (n1: ∀q∈sws ps bl C,q≠pb∧q≠gb) (n2:pb≠gb) (h1:jR w' pb (bkC gb sz x)) (h2:jR w' gb (lH x.b)):
 StB w' ps pp bl sz (C++[(x,pb,gb)]) (L++[x]) last':=by
 have e1:Us C x.id=C:=by
  unfold Us;rw[dN];intro a ha;have:=hx a.1 (by rw[←h.l];exact bC.2 ⟨a,ha,rfl⟩);simpa using this
 rw[QC,e1] at hm;refine⟨hc,hm.perm ?_,by rw[dz,h.l];rfl,fun a ha=> ?_,?_⟩
 ·have:Da (C++[(x,pb,gb)])=Da C++[(.int .i64 x.id,.pointer (some ⟨pb,0,none⟩))]:=by unfold Da;rw[dz];rfl
  rw[this];exact(jF (l₁:=[_])).trans (List.Perm.refl _)
 ·rcases aD.1 ha with q|q
  ·have m1:a.2.1∈cws C:=pK.2 ⟨a,q,.inl rfl⟩
   have m2:a.2.2∈cws C:=pK.2 ⟨a,q,.inr rfl⟩;exact⟨(h.b a q).1.keep k fun r=>(hs _ r).elim (h.ne.2 _ m1).1 (h.ne.2 _ m1).2,(h.b a q).2.keep k fun r=>(hs _ r).elim (h.ne.2 _ m2).1 (h.ne.2 _ m2).2⟩
  ·simp at q;subst q;exact⟨h1,h2⟩
 ·have e2:sws ps bl (C++[(x,pb,gb)])=sws ps bl C++[pb,gb]:=by unfold sws cws;rw[List.flatMap_append];rfl
  rw[e2,bF];refine⟨h.nd,by simp[n2],fun a ha b hb=> ?_⟩;simp at hb;rcases hb with rfl|rfl
  ·exact(n1 a ha).1
  ·exact(n1 a ha).2
end
section
variable {σ τ:Type} {w0:World} {P:FEnv σ w0} {V:Ov P τ} {X X0 F L:List Nat} {m:V.M} {t:τ} {w w' W:World} {r:Value} {en:Ending}
def Ov.Post (V:Ov P τ) (X F:List Nat) (m:V.M) (t:τ) (w:World) (r:Value) (en:Ending) (w':World):Prop:=
 en= .returned r∧∃X',V.T X' F m t w'∧Keep (off X F) w w'∧(∀x∈X',x∈X∨w.heap.size≤x)∧∀x∈X,x∈X'
theorem Ov.Run.finM (h:V.Run X0 F w L X m t W):V.Post X0 F m t w r (.returned r) W:=⟨rfl,X,h.at_.wB (fun g q=>aj _ q),h.run.k,h.run.x1,h.run.x2⟩
theorem Ov.Post.env (h:V.Post X F m t w r en w'):EPost V.env.S X F t w r en w':=by
 obtain⟨h1,X',h2,h3⟩:=h;exact⟨h1,X',⟨m,h2⟩,h3⟩
end
theorem QD {e:Nat} {q:Po} {o:Ob} {t:Int} (hq:q.W=[t]):qK e (q,8,o)=(oV e q t).1:=by
 unfold qK;simp only[if_true];rw[hq];rfl
section
variable {pd pc pz e:Nat} {mn:Int} {O:List (List Int)} {ev:Nat→Addr} {w0:World} {E:sG pd pc pz e mn O ev w0} {X F S:List Nat} {w w':World} {ps pp sz:Nat} {s:St} {id a n:Int} {bl:Nat} {C:BkL} {c:Bk×Nat×Nat} {x y:Bk} {last:Int} {L:List Bk}
theorem uG.few (h:uG e sz s):s.L.length≤65536:=by
 have h1:(s.L.map (·.o)).length≤s.p.T.length:=yP h.nd fun o ho=>by
  obtain⟨x,hx,rfl⟩:=bC.1 ho;exact h.t x hx
 have:=h.p.Jh.1;rw[dD] at h1;omega
theorem QE (k v:Int) (hlast:s.p.last<4611686018427387903) (h:(vI (kQ E pp) ps pp e sz).S X F s w) (h0:(kI mn O e s.p k v).2.1≠0):
 Calls prog 32 #[.pointer (some ⟨ps,0,none⟩),.int .i64 k,.int .i64 v] w (EPost (vI (kQ E pp) ps pp e sz).S X F (s.atP (qK e (kI mn O e s.p k v))) w (.tuple #[.int .i64 0,kM ev (kI mn O e s.p k v).2.1])):=by
 have hO:=PoX.ord (E:=E) (show PoX E X _ pp s.p w from h.1.choose_spec.s);have HI:uG e sz (s.atP (qK e (kI mn O e s.p k v))):=by
  have:=(h.2.take (mn:=mn) hO k v).1;rwa [pJ h0] at this
 have CS:=vV (mn:=mn) (k:=k) (v:=v) h.2.p h.2.w h.2.cl h.2.g hO;obtain⟨⟨⟨bl,C⟩,q⟩,hi⟩:=h;have R0:=Ov.Run.start q;have c0:=q.b.c.gC 0;have cl:=q.b.c.lt;have TK0:=wU (E:=E) (pp:=pp) k v om (show PoX E X _ pp s.p w from q.s);obtain⟨⟨p',cc,o⟩,hr⟩: ∃r,r=kI mn O e s.p k v:=⟨_,rfl⟩;rw[←hr] at HI CS TK0 h0 ⊢;simp only at CS TK0 h0 ⊢;have HR0:=ah R0;have HII:=ah HI;rcases CS with⟨r0,_⟩|⟨r2,rp,ro⟩|⟨r8,ro,rW,rT,rG,rc,rl⟩
 ·exact absurd r0 h0
 ·subst r2 ro
  have TK:=ah (show Calls prog 13 #[.pointer (some ⟨pp,0,none⟩),.int .i64 k,.int .i64 v] w (EPost (kQ E pp).S X ((zh (kQ E pp) ps pp sz).ws (bl,C)++F) p' w (.tuple #[.agg #[.int .i64 0,.int .i64 0],.iface 336 (.pointer (some (ev 2)))])) from TK0);have eU:Hid (qK e (p',2,(0,0))=p'):=by show qK _ _=_;unfold qK;rw[if_neg sI]
  simp only[show kM ev 2= .iface 336 (.pointer (some (ev 2))) from rfl];clear q hi TK0 rp h0 hr HI hO R0 hlast;go_in
  go_wp2_with fail;refine TK.out.mono ?_;rintro r w2 hp;obtain⟨rfl',X2,R2,_⟩:=HR0.out.dep hp;obtain rfl:r= .returned (.tuple #[.agg #[.int .i64 0,.int .i64 0],.iface 336 (.pointer (some (ev 2)))]):=rfl';have R3:=R2.box zO;have N3:=(show jR (w2.alloc zO) w2.heap.size [.int .i64 0,.int .i64 0] from jR.mk_ w2 [.int .i64 0,.int .i64 0] 40 rfl);obtain⟨w2',BN⟩: ∃w2',w2.alloc zO=w2':=⟨_,rfl⟩;rw[BN] at R3 N3;have m0:=N3.gC 0;have m1:=N3.gC 1;have f0:=N3.f 0 sI;have f1:=N3.f 1 sI;have ml:=N3.lt;have R3:=R3.wr (b:=w2.heap.size) sI ((Keep.refl [w2.heap.size] w2').Dg (b:=w2.heap.size) (.inl sI) (.int .i64 0) (.int .i64 0));obtain⟨w3,hw3⟩:=eX ((w2'.setCell ⟨w2.heap.size,0,none⟩ (.int .i64 0)).setCell ⟨w2.heap.size,1,none⟩ (.int .i64 0));rw[hw3] at R3;have hE3:qC w0.heap.size ev w3:=E.err.go ((kQ E pp).bel R3.at_.s);have gs:w3.cell? ⟨8,0,none⟩=some (.iface 336 (.pointer (some (ev 8)))):=(hE3.at 8 (by decide) (by decide)).1;have gl:8<w3.heap.size:=(hE3.at 8 (by decide) (by decide)).2;have IS:=ah (wM 2 8 w3 hE3 (by decide) (by decide) (by decide) (by decide));rw[show decide (2=8)=false from rfl] at IS;have HR3:=ah R3;clear hp R2 R3 hE3 TK c0 cl N3;unfold zO at BN;go_wp2_with fail;clear hw3 BN;refine IS.out.mono ?_;rintro r w4 ⟨rfl,hw4⟩;obtain rfl:=hw4;go_wp2;go_ret2
  exact FEnv.sV (by rw[eU.out];exact HR3.out.fin) HII.out
 ·subst r8 ro
  have TK:=ah (show Calls prog 13 #[.pointer (some ⟨pp,0,none⟩),.int .i64 k,.int .i64 v] w (EPost (kQ E pp).S X ((zh (kQ E pp) ps pp sz).ws (bl,C)++F) p' w (.tuple #[.agg #[.int .i64 0,.int .i64 0],.iface 336 (.pointer (some (ev 8)))])) from TK0);have eU:Hid (qK e (p',8,(0,0))=(oV e p' (s.p.last+1)).1):=QD rW;simp only[show kM ev 8= .iface 336 (.pointer (some (ev 8))) from rfl];have HW:=ah rW;have fT:Hid (kW (s.p.last+1)):=⟨by have:=hi.p.l0;omega,om⟩;have HL:Hid (p'.last<4611686018427387904):=by show _<_;omega
  clear q hi TK0 h0 hr HI hO R0 hlast rW rT rG rc rl;go_in
  go_wp2_with fail;refine TK.out.mono ?_;rintro r w2 hp;obtain⟨rfl',X2,R2,_⟩:=HR0.out.dep hp;obtain rfl:r= .returned (.tuple #[.agg #[.int .i64 0,.int .i64 0],.iface 336 (.pointer (some (ev 8)))]):=rfl';have R3:=R2.box zO;have N3:=(show jR (w2.alloc zO) w2.heap.size [.int .i64 0,.int .i64 0] from jR.mk_ w2 [.int .i64 0,.int .i64 0] 40 rfl);obtain⟨w2',BN⟩: ∃w2',w2.alloc zO=w2':=⟨_,rfl⟩;rw[BN] at R3 N3;have m0:=N3.gC 0;have m1:=N3.gC 1;have f0:=N3.f 0 sI;have f1:=N3.f 1 sI;have ml:=N3.lt;have R3:=R3.wr (b:=w2.heap.size) sI ((Keep.refl [w2.heap.size] w2').Dg (b:=w2.heap.size) (.inl sI) (.int .i64 0) (.int .i64 0));obtain⟨w3,hw3⟩:=eX ((w2'.setCell ⟨w2.heap.size,0,none⟩ (.int .i64 0)).setCell ⟨w2.heap.size,1,none⟩ (.int .i64 0));rw[hw3] at R3;have hE3:qC w0.heap.size ev w3:=E.err.go ((kQ E pp).bel R3.at_.s);have gs:w3.cell? ⟨8,0,none⟩=some (.iface 336 (.pointer (some (ev 8)))):=(hE3.at 8 (by decide) (by decide)).1;have gl:8<w3.heap.size:=(hE3.at 8 (by decide) (by decide)).2;have IS:=ah (wM 8 8 w3 hE3 (by decide) (by decide) (by decide) (by decide));rw[show decide (8=8)=true from rfl] at IS;have WT:=ah (vR (E:=E) (pp:=pp) (p:=p') (show PoX E _ _ pp p' w3 from R3.at_.s));have c0:=R3.at_.b.c.gC 0;have cl:=R3.at_.b.c.lt;have HR3:=ah R3;clear hp R2 R3 hE3 TK N3;unfold zO at BN;go_wp2_with fail;clear hw3 BN;refine IS.out.mono ?_;rintro r w4 ⟨rfl,hw4⟩;obtain rfl:=hw4;go_wp2_with fail;refine WT.out.mono ?_;rintro r w5 ⟨⟨qw,kw,rfl,ho⟩,hb5⟩;rw[HW.out] at ho;obtain⟨gw,hgw⟩: ∃gw,qw=some ⟨gw,0,none⟩:=by
   rcases ho.2 with⟨r,_⟩|⟨g,cap,cur,r,_⟩
   ·injection r with _ r _;cases r
   ·injection r with r _ _;exact⟨g,r⟩
  subst hgw;have x0:w5.cell? ⟨gw,0,none⟩=some (.int .i64 (s.p.last+1)):=by
   have:=ho.cells rfl 0 (.int .i64 (s.p.last+1)) rfl;rwa [addr_add] at this
  have xl:gw<w5.heap.size:=(ho.lt gw rfl).2;have hWl:p'.W.length=1:=by rw[HW.out];rfl
  have wz:IntKind.i64.wrap 0=0:=by decide
  rw[hWl];have R5:=HR3.out.go hb5;have R6:=R5.go (show Below w5.heap.size w5 w5.drew from(aL _ _).drew);have y0:=R5.at_.b.c.gC 0;have yl:=R5.at_.b.c.lt;have CN:=ah (Cm (E:=E) (pp:=pp) (p:=p') (s.p.last+1) fT.out HL.out (show PoX E _ _ pp p' w5.drew from R6.at_.s));have HR6:=ah R6;clear R5 R6 ho hb5 hWl WT IS gs gl c0 cl;go_wp2_with fail;refine lJ 10 kR kR ?_;simp only[aQ,aV,aP,aU];repeat still_step
  refine wpStill_nil ?_;go_wp2_with fail;refine CN.out.mono ?_;rintro r w7 hp;obtain⟨rfl,X7,R7,_⟩:=HR6.out.dep hp;have HR7:=ah R7;clear hp R7;go_wp2;go_ret2
  exact FEnv.sV (by rw[eU.out];exact HR7.out.fin) HII.out
theorem EZ (k v:Int) (hsz:sz≤65536) (hlast:s.p.last<4611686018427387903) (hl2:s.last<4611686018427387903) (q:(zh (kQ E pp) ps pp sz).T X F (bl,C) s w) (hi:uG e sz s) (h0:(kI mn O e s.p k v).2.1=0):
 Calls prog 32 #[.pointer (some ⟨ps,0,none⟩),.int .i64 k,.int .i64 v] w fun r w'=>∃pb gb,(zh (kQ E pp) ps pp sz).Post X F (bl,C++[(sO sz s (kI mn O e s.p k v).2.2,pb,gb)]) ⟨(kI mn O e s.p k v).1,s.L++[sO sz s (kI mn O e s.p k v).2.2],s.last+1⟩ w (.tuple #[.int .i64 (s.last+1),.nilIface]) r w':=by
 have hO:=PoX.ord (E:=E) (show PoX E X _ pp s.p w from q.s);have R0:=Ov.Run.start q;have c0:=q.b.c.gC 0;have cl:=q.b.c.lt;have TK0:=wU (E:=E) (pp:=pp) k v om (show PoX E X _ pp s.p w from q.s);obtain⟨⟨p',cc,o⟩,hr⟩: ∃r,r=kI mn O e s.p k v:=⟨_,rfl⟩;rw[←hr] at TK0 h0 ⊢;simp only at TK0 h0 ⊢;subst h0;have TK:=ah (show Calls prog 13 #[.pointer (some ⟨pp,0,none⟩),.int .i64 k,.int .i64 v] w (EPost (kQ E pp).S X ((zh (kQ E pp) ps pp sz).ws (bl,C)++F) p' w (.tuple #[.agg #[.int .i64 o.1,.int .i64 o.2],.nilIface])) from TK0);have HR0:=ah R0;obtain⟨l,hl⟩:=eY s.last;have HLL:=ah hl;have l0:=hi.l0;rw[←hl] at l0;have fL:Hid (kW (l+1)):=⟨om,om⟩;have wl:IntKind.i64.wrap (l+1)=l+1:=aY _ om;have FEW:=ah hi.few;have RNG:=ah hi.rng;have HSZ:=ah hsz;rw[←hl];clear q hi TK0 hr hO R0 hlast hl hl2 l0 hsz;go_in
 go_wp2_with fail;refine TK.out.mono ?_;rintro r w2 hp;obtain⟨rfl',X2,R2,_⟩:=HR0.out.dep hp;obtain rfl:r= .returned (.tuple #[.agg #[.int .i64 o.1,.int .i64 o.2],.nilIface]):=rfl';have R3:=R2.box (bO o);have N3:=(show jR (w2.alloc (bO o)) w2.heap.size [.int .i64 o.1,.int .i64 o.2] from jR.mk_ w2 [.int .i64 o.1,.int .i64 o.2] 40 rfl);obtain⟨w3,hw3⟩:=eX (w2.alloc (bO o));rw[hw3] at R3 N3;have hE3:qC w0.heap.size ev w3:=E.err.go ((kQ E pp).bel R3.at_.s);have gs:w3.cell? ⟨8,0,none⟩=some (.iface 336 (.pointer (some (ev 8)))):=(hE3.at 8 (by decide) (by decide)).1;have gl:8<w3.heap.size:=(hE3.at 8 (by decide) (by decide)).2;have IS:=ah (Wz (ev 8) w3);have C3:=R3.at_.b.c;have M3:=R3.at_.b.m;have c3:=C3.gC 3;have cf:=C3.f 3 (by simp[storeCells']);have c3l:=C3.lt;rw[show(((zh (kQ E pp) ps pp sz).set s p'):St).last=s.last from rfl,←HLL.out] at c3;have nb:bl≠ps:=R3.at_.b.ne.1.symm;have nx:w2.heap.size≠ps:=fun r=>R3.nL (b:=w2.heap.size) sI (mU.2 (.inl r))
 obtain⟨w4,hw4⟩:=eX (w3.setCell ⟨ps,3,none⟩ (.int .i64 (l+1)));have k34:Keep [ps] w3 w4:=by rw[←hw4];exact(Keep.refl _ _).setCell (p:=⟨ps,3,none⟩) (.inl sI) _
 have C4:jR w4 ps (storeCells' pp sz bl (l+1)):=by rw[←hw4];exact C3.store 3 (.int .i64 (l+1)) (by simp[storeCells'])
 have N4:=N3.keep k34 (by simpa using nx);have M4:=M3.keep k34 (by simpa using nb);have MK:=ah (Gl sz HSZ.out);have G6:=jR.new w4 (lH (List.replicate sz 0)) 5;have P7:jR ((w4.alloc (.cells (lH (List.replicate sz 0)).toArray 5)).alloc (.cells #[.int .i64 o.1,.int .i64 o.2,.slice (some ⟨w4.heap.size,0,none⟩) sz sz,.int .i64 1] 163)) (w4.alloc (.cells (lH (List.replicate sz 0)).toArray 5)).heap.size (bkC w4.heap.size sz (sO sz s o)):=jR.new _ _ 163;rw[show(w4.alloc (.cells (lH (List.replicate sz 0)).toArray 5)).heap.size=w4.heap.size+1 by simp] at P7;have G7:=G6.keep (w':=((w4.alloc (.cells (lH (List.replicate sz 0)).toArray 5)).alloc (.cells #[.int .i64 o.1,.int .i64 o.2,.slice (some ⟨w4.heap.size,0,none⟩) sz sz,.int .i64 1] 163)).drew) (((Keep.refl [] _).alloc _).drew) sI;have P7:=P7.keep ((Keep.refl [] _).drew) sI;have k47:Keep [] w4 ((w4.alloc (.cells (lH (List.replicate sz 0)).toArray 5)).alloc (.cells #[.int .i64 o.1,.int .i64 o.2,.slice (some ⟨w4.heap.size,0,none⟩) sz sz,.int .i64 1] 163)).drew:=(((Keep.refl _ _).alloc _).alloc _).drew;have z7:((w4.alloc (.cells (lH (List.replicate sz 0)).toArray 5)).alloc (.cells #[.int .i64 o.1,.int .i64 o.2,.slice (some ⟨w4.heap.size,0,none⟩) sz sz,.int .i64 1] 163)).drew.heap.size=w4.heap.size+2:=sI;obtain⟨w7,hw7⟩:=eX (((w4.alloc (.cells (lH (List.replicate sz 0)).toArray 5)).alloc (.cells #[.int .i64 o.1,.int .i64 o.2,.slice (some ⟨w4.heap.size,0,none⟩) sz sz,.int .i64 1] 163)).drew);rw[hw7] at P7 G7 k47 z7;have M7:=M4.keep k47 sI;have eL:(Da C).length=s.L.length:=by
  have:=R3.at_.b.l;have e2:C.map (·.1)=s.L:=this;rw[←e2];simp[Da]
 obtain⟨w8,hup,M8,ht⟩:=M7.put (t:=158) uV gQ (by rw[eL];have:=FEW.out;unfold maxLen;omega) (key:=.int .i64 (l+1)) (val:=.pointer (some ⟨w4.heap.size+1,0,none⟩)) (keyOf_int_mk bB (wf64 fL.out));have k78:Keep [bl] w7 w8:=mJ ht (.inl sI);have k38:Keep [ps,bl] w3 w8:=((k34.mono (fun q t=>by simp at t;subst t;simp)).then (k47.mono (fun q t=>by cases t))).then (k78.mono (fun q t=>by simp at t;subst t;simp));have C8:=(C4.keep k47 sI).keep k78 (by simpa using nb.symm);have z34:=k34.size;have z78:=k78.size;have lim3: ∀y∈sws ps bl C,y<w3.heap.size:=fun y hy=>R3.lt (show y∈(zh (kQ E pp) ps pp sz).ws (bl,C) from hy)
 have lbl:=lim3 bl (mU.2 (.inr (.inl rfl)));have P8:=P7.keep k78 (by simp;omega);have G8:=G7.keep k78 (by simp;omega);rw[←hw7] at hup;have SB:StB w8 ps pp bl sz (C++[(sO sz s o,w4.heap.size+1,w4.heap.size)]) (s.L++[sO sz s o]) (l+1):=StB.add (L:=s.L) R3.at_.b k38 (fun q t=>by simpa using t) C8 (fun y hy=>by
  have:=(RNG.out y hy).2;have:=HLL.out;show y.id≠s.last+1;omega) (by rw[show(sO sz s o).id=l+1 from by rw[HLL.out];rfl];exact M8) (fun y hy=>⟨by have:=lim3 y hy;omega,by have:=lim3 y hy;omega⟩) om P8 G8
 have ws': ∀{y:Nat},y∈sws ps bl (C++[(sO sz s o,w4.heap.size+1,w4.heap.size)])→y∈sws ps bl C∨y=w4.heap.size+1∨y=w4.heap.size:=fun {y} hy=>by
  rcases mU.1 hy with q|q|q
  ·exact .inl (mU.2 (.inl q))
  ·exact .inl (mU.2 (.inr (.inl q)))
  ·obtain⟨c,hc,hb⟩:=pK.1 q
   rcases aD.1 hc with u|u
   ·exact .inl (mU.2 (.inr (.inr (pK.2 ⟨c,u,hb⟩))))
   ·simp at u;subst u;exact .inr hb
 have hk:Keep ((zh (kQ E pp) ps pp sz).ws (bl,C)++[w2.heap.size]) w3 w8:=k38.mono fun q t=>by
  simp at t;refine av _ ?_;rcases t with rfl|rfl
  ·exact mU.2 (.inl rfl)
  ·exact mU.2 (.inr (.inl rfl))
 have hb':(zh (kQ E pp) ps pp sz).B (bl,C++[(sO sz s o,w4.heap.size+1,w4.heap.size)]) ⟨p',s.L++[sO sz s o],l+1⟩ w8:=SB;obtain⟨X8,R8⟩:=Ov.Run.put (V:=zh (kQ E pp) ps pp sz) (m:=(bl,C)) (m':=(bl,C++[(sO sz s o,w4.heap.size+1,w4.heap.size)])) (t':=⟨p',s.L++[sO sz s o],l+1⟩) (L':=[]) R3 hk
  (fun y t=>(ws' t).elim .inl fun u=>.inr (.inr (by rcases u with u|u<;>omega)))
  (fun y t=>by
    rcases ws' t with u|u|u
    ·have:=lim3 y u;omega
    ·omega
    ·omega) (fun q t=>by cases t) hb' rfl
 have HR8:=ah R8;have x1:=C4.gC 1;have x2:=C4.gC 2;have x3:=C4.gC 3;have xl:=C4.lt;have n0:=N4.gC 0;have n1:=N4.gC 1;have nl:=N4.lt;have u3:=C8.gC 3;have ul:=C8.lt;clear hp R2 R3 hE3 TK N3 C3 M3 nb nx k34 C4 N4 M4 G6 G7 P7 z7 k47 M7 eL M8 ht hw7 k78 k38 C8 z34 z78 lim3 lbl P8 G8 SB ws' hk hb' R8 c0 cl HR0;unfold bO at hw3;go_wp2_with fail;clear hw3;refine IS.out.mono ?_;rintro r w5 ⟨rfl,hw5⟩;obtain rfl:=hw5;go_wp2_with fail;clear hw4 c3 cf c3l gs gl;refine kE (S:=(fun w'=>w'.cell? ⟨ps,1,none⟩=some (.int .i64 sz)∧w'.cell? ⟨ps,2,none⟩=some (.map (some bl))∧w'.cell? ⟨ps,3,none⟩=some (.int .i64 (l+1))∧w'.cell? ⟨w2.heap.size,0,none⟩=some (.int .i64 o.1)∧w'.cell? ⟨w2.heap.size,1,none⟩=some (.int .i64 o.2))) 16 #[false,false,false,false,false,false,false,false,false,false,false,false,false,false,false,false] rfl kR kR (by(try dsimp only);go_keep) (fun hHeld=> ?_);simp only[aQ,aV];refine tk 0 ?_;refine tk 1 ?_;refine tk 2 ?_;refine tk 3 ?_;refine tk 4 ?_;refine tk 5 ?_;refine tk 6 ?_;refine tk 7 ?_;refine tk 8 ?_;refine tk 9 ?_;refine tk 10 ?_;refine tk 11 ?_;refine tk 12 ?_;refine wpAnyH_ready (rs:=[13]) kR sI ?_;refine aR (jT rfl) (fun K hK=> ?_) aX;refine yN rf 75 (.tmp 62) (.tmp 62) rf (.int .i64 (sz:Nat)) (.int .i64 (sz:Nat)) rf rf (MK.out _) ?_;refine hkO hK fun hHeld=> ?_
 clear hK K;refine tk 14 ?_;refine wpAnyH_ready (rs:=[15]) kR sI ?_;refine aR (jT rfl) (fun K hK=> ?_) aX;go_simp
 refine hkO hK fun hHeld=> ?_
 clear hK K;refine wpAnyH_done kR ?_ _;simp only[oz,aP,aU];go_wp2;go_ret2
 exact⟨_,_,HR8.out.finM⟩
theorem yB (k v:Int) (hsz:sz≤65536) (hlast:s.p.last<4611686018427387903) (hl2:s.last<4611686018427387903) (h:(vI (kQ E pp) ps pp e sz).S X F s w):
 Calls prog 32 #[.pointer (some ⟨ps,0,none⟩),.int .i64 k,.int .i64 v] w (EPost (vI (kQ E pp) ps pp e sz).S X F (pW mn O e sz s k v).1 w (.tuple #[.int .i64 (pW mn O e sz s k v).2.2,kM ev (pW mn O e sz s k v).2.1])):=by
 by_cases h0:(kI mn O e s.p k v).2.1=0
 ·have hO:=PoX.ord (E:=E) (show PoX E X _ pp s.p w from h.1.choose_spec.s)
  have HI:=(h.2.take (mn:=mn) hO k v).1;rw[qx h0] at HI ⊢;obtain⟨⟨⟨bl,C⟩,q⟩,hi⟩:=h;refine(EZ k v hsz hlast hl2 q hi h0).mono ?_;rintro r w' ⟨pb,gb,hp⟩;exact FEnv.sV hp.env HI
 ·rw[pJ h0]
  exact QE k v hlast h h0
end
structure zT (p e n nw:Nat) (d:De):Prop where
 inv:pU e d
 full:qV p e n d.c
 hands:d.H=List.replicate nw ([],[])
 pile:d.P=[]
section
variable {p e n nw sz:Nat} {d:De} {s:St} {q:Po} {o:Ob} {k id:Int} {x y:Bk} {L:List Bk}
theorem zT.hand (h:zT p e n nw d) (hk:0≤k∧k<nw):p8 d k=some ([],[]):=by
 unfold p8;rw[if_neg om,h.hands,fF,if_pos om]
theorem zT.take (hO:rM [[0]] 1) (h:zT p e n nw d) (hn:n<p*kL e) (hk:0≤k∧k<nw) (u:Bool):
 (takeD 0 [[0]] e d k 0 u).2.1=0∧zT p e (n+1) nw (takeD 0 [[0]] e d k 0 u).1:=by
 have e1:takeD 0 [[0]] e d k 0 u=takeD 0 [[0]] e d k 0 true:=by cases u;exact zN h.inv k 0;rfl
 rw[e1];obtain⟨t1,t2,t3,t4,t5,t6,t7⟩:=Wq hO h.inv h.full hn (h.hand hk) h.pile;exact⟨t1,t7,t6,t4.trans h.hands,t5⟩
theorem zT.fill1 (hO:rM [[0]] 1) (h:zT p e 0 nw d) (hn:0<p*kL e) (hw:0<nw):
 (mM 0 [[0]] e 0 1 d []).2.2=0∧zT p e 1 nw (mM 0 [[0]] e 0 1 d []).1∧(mM 0 [[0]] e 0 1 d []).2.1.length=1:=by
 obtain⟨t1,t2⟩:=h.take (k:=0) hO hn ⟨om,om⟩ true;rw[wV t1];exact⟨rfl,t2,by simp[mM]⟩
theorem ordZ_len {n:Nat} (h:rM [[0]] n):n=1:=by have:=h.1;simpa using this.symm
structure StJ (e sz:Nat) (s:St):Prop where
 inv:uG e sz s
 h:s.p.d.H.length=2
 m:s.p.most=1
 j:1≤s.p.R.length+s.p.T.length
 t:s.p.T.length=s.L.length
theorem StJ.right (h:StJ e sz s) (hO:rM [[0]] s.p.d.c.L.length) (hk:0≤k∧k<2):mG s.p k=true∧vQ s.p 0=true:=by
 have:=ordZ_len hO;unfold mG vQ;rw[h.h,this];exact⟨dQt om,by decide⟩
theorem StJ.take (hO:rM [[0]] s.p.d.c.L.length) (h:StJ e sz s) (hk:0≤k∧k<2):
 StJ e sz (pW 0 [[0]] e sz s k 0).1∧((kI 0 [[0]] e s.p k 0).2.1=0∨((kI 0 [[0]] e s.p k 0).2.1=8∧s.p.R=[])):=by
 have HI:=(h.inv.take (mn:=0) hO k 0).1;obtain⟨r1,r2⟩:=h.right hO hk;have hj:=h.j;have ht:=h.t;have hc: ¬s.p.cl=true:=by rw[h.inv.cl];simp
 have hr: ¬(mG s.p k=false∨vQ s.p 0=false):=by rw[r1,r2];simp
 have hW: ¬s.p.W≠[]:=by rw[h.inv.w];simp
 by_cases h0:(takeD 0 [[0]] e s.p.d k 0 false).2.1=0
 ·have e1:kI 0 [[0]] e s.p k 0=(⟨(takeD 0 [[0]] e s.p.d k 0 false).1,s.p.most,s.p.R,s.p.T++[(takeD 0 [[0]] e s.p.d k 0 false).2.2],s.p.W,s.p.G,s.p.last,s.p.cl⟩,0,(takeD 0 [[0]] e s.p.d k 0 false).2.2):=by
   unfold kI;rw[if_neg hc,if_neg hr,if_neg hW,if_pos h0]
  have c0:(kI 0 [[0]] e s.p k 0).2.1=0:=by rw[e1]
  refine⟨?_,.inl c0⟩;rw[qx c0] at HI ⊢;rw[e1] at HI ⊢;refine⟨HI,uo.trans h.h,h.m,?_,?_⟩
  ·simp only[aW,cB];omega
  ·simp only[aW,cB];omega
 rcases dI s.p.R with hR|⟨R',o,hR⟩
 ·have e1:kI 0 [[0]] e s.p k 0=((mY (s.p.atD (takeD 0 [[0]] e s.p.d k 0 false).1)).1,(mY (s.p.atD (takeD 0 [[0]] e s.p.d k 0 false).1)).2,(0,0)):=by
   unfold kI;rw[if_neg hc,if_neg hr,if_neg hW,if_neg h0,hR];rfl
  have hw8: ¬8≤(s.p.atD (takeD 0 [[0]] e s.p.d k 0 false).1).W.length:=by show¬8≤s.p.W.length;rw[h.inv.w];simp
  have ew:mY (s.p.atD (takeD 0 [[0]] e s.p.d k 0 false).1)=(⟨(takeD 0 [[0]] e s.p.d k 0 false).1,s.p.most,s.p.R,s.p.T,[s.p.last+1],s.p.G,s.p.last+1,s.p.cl⟩,8):=by
   unfold mY;rw[if_neg hw8];show(Po.mk _ _ _ _ (s.p.W++_) _ _ _,8)=_;rw[h.inv.w];rfl
  rw[ew] at e1;have c8:(kI 0 [[0]] e s.p k 0).2.1=8:=by rw[e1]
  refine⟨?_,.inr ⟨c8,hR⟩⟩;rw[pJ (by rw[c8];simp)] at HI ⊢;rw[e1] at HI ⊢;simp only at HI ⊢;rw[Iz (s:=s) (q:=⟨(takeD 0 [[0]] e s.p.d k 0 false).1,s.p.most,s.p.R,s.p.T,[s.p.last+1],s.p.G,s.p.last+1,s.p.cl⟩) h.inv.cl (t:=s.p.last+1) rfl h.inv.cl] at HI ⊢;exact⟨HI,uo.trans h.h,h.m,hj,ht⟩
 ·have hR':s.p.R=R'++[o]:=by rw[hR,List.concat_eq_append]
  have hg:s.p.R.getLast?=some o:=by rw[hR'];simp
  have e1:kI 0 [[0]] e s.p k 0=(⟨(takeD 0 [[0]] e s.p.d k 0 false).1,s.p.most,s.p.R.dropLast,s.p.T++[o],s.p.W,s.p.G,s.p.last,s.p.cl⟩,0,o):=by
   unfold kI;rw[if_neg hc,if_neg hr,if_neg hW,if_neg h0,hg]
  have c0:(kI 0 [[0]] e s.p k 0).2.1=0:=by rw[e1]
  refine⟨?_,.inl c0⟩;rw[qx c0] at HI ⊢;rw[e1] at HI ⊢;have l1:s.p.R.length=R'.length+1:=by rw[hR'];simp
  refine⟨HI,uo.trans h.h,h.m,?_,?_⟩
  ·simp only[aW,cB,List.length_dropLast];omega
  ·simp only[aW,cB];omega
theorem StJ.take_yes (hO:rM [[0]] s.p.d.c.L.length) (h:StJ e sz s) (hk:0≤k∧k<2) (hL:s.p.R≠[]):(kI 0 [[0]] e s.p k 0).2.1=0:=by
 rcases(h.take hO hk).2 with q|⟨_,q⟩
 ·exact q
 ·exact absurd q hL
end
section
variable {pd pc pz e:Nat} {mn:Int} {O:List (List Int)} {ev:Nat→Addr} {w0:World} {E:sG pd pc pz e mn O ev w0} {X F S:List Nat} {w w':World} {pp sz:Nat} {p:Po}
theorem QF (hsz:1≤sz∧sz≤64) (h:(kQ E pp).S X F p w) (hI:uG e sz ⟨p,[],0⟩):
 Calls prog 39 #[.pointer (some ⟨pp,0,none⟩),.int .i64 sz] w fun en w'=>∃ps X',en= .returned (.tuple #[.pointer (some ⟨ps,0,none⟩),.nilIface])∧(vI (kQ E pp) ps pp e sz).S X' F ⟨p,[],0⟩ w'∧Below w.heap.size w w'∧∀x∈X',x∈X∨w.heap.size≤x:=by
 have d1:decide ((sz:Int)<1)=false:=dQf om;have d2:decide ((64:Int)<(sz:Int))=false:=dQf om;have hmm:= @run_makeMap prog;have M1:=qO.made w prog 3;have C2:=jR.new (w.alloc (.map #[] 0)) (storeCells' pp sz w.heap.size 0) 160;rw[show(w.alloc (.map #[] 0)).heap.size=w.heap.size+1 by simp] at C2;have k2:Keep [] w ((w.alloc (.map #[] 0)).alloc (.cells (storeCells' pp sz w.heap.size 0).toArray 160)):=((Keep.refl _ _).alloc _).alloc _;have z2:((w.alloc (.map #[] 0)).alloc (.cells (storeCells' pp sz w.heap.size 0).toArray 160)).heap.size=w.heap.size+2:=sI;have M2:=M1.keep (w':=(w.alloc (.map #[] 0)).alloc (.cells (storeCells' pp sz w.heap.size 0).toArray 160)) ((Keep.refl [] _).alloc _) sI;have b2:Below w.heap.size w ((w.alloc (.map #[] 0)).alloc (.cells (storeCells' pp sz w.heap.size 0).toArray 160)):=k2.rA;obtain⟨w2,hw2⟩:=eX ((w.alloc (.map #[] 0)).alloc (.cells #[.pointer (some ⟨pp,0,none⟩),.int .i64 sz,.map (some w.heap.size),.int .i64 0] 160));have BN:(w.alloc (.map #[] 0)).alloc (.cells (storeCells' pp sz w.heap.size 0).toArray 160)=w2:=hw2;rw[BN] at C2 k2 z2 M2 b2;have lim:=(kQ E pp).lim h;have mem:=(kQ E pp).sU h;have T:(zh (kQ E pp) (w.heap.size+1) pp sz).T ([w.heap.size+1,w.heap.size]++X) F (w.heap.size,[]) ⟨p,[],0⟩ w2:=
  ⟨(kQ E pp).uS (Y:=[w.heap.size+1,w.heap.size]) (G:=[]) h k2 (fun g q=>by cases q) (fun y hy=>by simp at hy;omega),⟨C2,M2,rfl,fun c hc=>(by cases hc),by simp[sws,cws]⟩,fun f hf q=>by
    have:=(lim f (mem f hf)).2;have q':f=w.heap.size+1∨f=w.heap.size∨f∈cws []:=mU.1 q;rcases q' with r|r|r
    ·omega
    ·omega
    ·simp[cws] at r⟩
 have HT:=ah T;have HI:=ah hI;have HB:=ah b2;clear T hI b2 M1 M2 C2 k2 z2 BN lim mem h hsz;go_in
 go_wp2;go_ret2
 refine⟨_,_,rfl,⟨⟨_,HT.out⟩,HI.out⟩,HB.out,fun x hx=> ?_⟩;rcases aD.1 hx with q|q
 ·simp at q;exact .inr om
 ·exact .inl q
end
def ShelfOk (w:World) (ev:Nat→Addr) (p e:Nat) (en:Ending) (w':World):Prop:=
 ∃(w3:World) (pd pc pz:Nat) (E:sG pd pc pz e 0 [[0]] ev w3) (pp ps pm:Nat) (X F:List Nat) (q:Po),en= .returned (.tuple #[.pointer (some ⟨ps,0,none⟩),.pointer (some ⟨pm,0,none⟩),.bool true])∧
  (vI (kQ E pp) ps pp e e).S X F ⟨q,[],0⟩ w'∧Below w.heap.size w w3∧Below w.heap.size w w'∧StJ e e ⟨q,[],0⟩∧zT p e 1 2 q.d∧q.R.length=1∧q.T=[]∧q.last=0
theorem IQ {B:Nat} {ev:Nat→Addr} (p e:Nat) (w:World) (hE:qC B ev w) (hp:1≤p∧p≤256) (he:1≤e∧e≤64):
 Calls prog 29 #[.int .i64 p,.int .i64 e] w (ShelfOk w ev p e):=by
 have hB:=hE.size;have DP:=ah (show Calls prog 8 #[.int .i64 p,.int .i64 0,.int .i64 e,.int .i64 2] w _ from yU p 0 e 2 w hE (FE om om) om he.1 he.2 om om);have HE:=ah hE;have HEE:=ah he;have HPP:=ah hp;clear hE he hp;go_in
 go_wp2_with fail;refine DP.out.mono ?_;rintro r w2 ⟨w3,X,pd,pc,pz,gh,pdm,ghm,pcm,pm,gN,x,rfl,b13,hz,hxn,hxF,hxT,b12⟩;have z3:=b13.size;have e3:qC w3.heap.size ev w3:=(HE.out.go b13).up om (aI _);obtain⟨d0,hd0⟩: ∃d0:De,d0=⟨⟨[x],[]⟩,List.replicate 2 ([],[]),[]⟩:=⟨_,rfl⟩;rw[←hd0] at hz;have hI0:pU e d0:=hz.inv;have DX0:=WS e3 b13 hz hI0;have hH0:0<d0.H.length:=by rw[hd0];simp
 have hM0:MoI e [] d0:=by
  rw[hd0];refine⟨dR,fun y hy=>(by cases hy),fun y=> ?_⟩;constructor
  ·intro q;simp[qj] at q
  ·rintro(q|q)
   ·cases q
   ·simp[held,mQ] at q
 have hx:Inv x.n x.F x.T:=hI0.c.zi x (by rw[hd0];simp);have hO:rM [[0]] 1:=⟨rfl,fun D hD=>by simp at hD;subst hD;exact⟨rfl,fun x=>by simp;omega⟩⟩;have MD:zT p e 0 2 d0:=⟨hI0,by rw[hd0];exact qV.start hx HEE.out.1 HEE.out.2 hxF,by rw[hd0],by rw[hd0]⟩;obtain⟨f1,f2,f3⟩:=MD.fill1 hO (by have:=rZ HEE.out.1 HEE.out.2;exact Nat.mul_pos (by have:=HPP.out;omega) om) om;have CT1:=ah (wX 1 DX0 om hM0 hH0 f1);have CT2:Hid (∀(pp:Nat) (s:Po) (T:World),lT (kQ (VZ (pd:=pd) (pc:=pc) (pz:=pz) (e:=e) (mn:=0) (O:=[[0]]) gh 0 0 e3).dr pp) (envR w3 pdm ghm pcm pm gN e 0 0 0 [[0]]).toFEnv w [] s d0 T→_):=fun pp s T h=>vU 1 h om hM0 hH0 f1
 obtain⟨q0,hq0⟩:=eY (uq (mM 0 [[0]] e 0 1 d0 []).1 1 (mM 0 [[0]] e 0 1 d0 []).2.1);have F1:Hid (zT p e 1 2 q0.d∧q0.R.length=1∧q0.T=[]∧q0.W=[]∧q0.G=[]∧q0.last=0∧q0.cl=false∧q0.most=1):=by
  subst hq0;exact⟨f2,f3,rfl,rfl,rfl,rfl,rfl,rfl⟩
 rw[←hq0] at CT1 CT2;have HB13:=ah b13;generalize VZ (pd:=pd) (pc:=pc) (pz:=pz) (e:=e) (mn:=0) (O:=[[0]]) gh 0 0 e3=E0 at CT1 CT2;generalize envR w3 pdm ghm pcm pm gN e 0 0 0 [[0]]=D0 at CT1 CT2;clear DP hz hd0 DX0 e3 hI0 hH0 hM0 hxn hxF hxT b13 b12 z3 hx hO MD f1 f2 f3 hq0;go_wp2_with fail;refine CT1.out.mono ?_;rintro r w4 ⟨pp,rfl,DX4⟩;have CT2':=ah (CT2.out _ _ _ DX4);clear CT1 CT2 DX4;go_wp2_with fail;refine CT2'.out.mono ?_;rintro r w5 ⟨pq,rfl,DX5⟩;obtain⟨X5,F5,Y5,G5,t5⟩:=DX5;obtain⟨m1,m2,m3,m4,m5,m6,m7,m8⟩:=F1.out;have hIS:uG e e ⟨q0,[],0⟩:=⟨(show PoX E0.dr X5 F5 pp q0 w5 from t5.s).2,m4,m5,m7,List.Pairwise.nil,fun x q=>(by cases q),fun x q=>(by cases q),fun x q=>(by cases q),fun x q=>(by cases q),dR,bZ _⟩;have SN:=ah (QF (E:=E0.dr) (sz:=e) HEE.out t5.s hIS);have HJ:Hid (StJ e e ⟨q0,[],0⟩):=⟨hIS,by show q0.d.H.length=2;rw[m1.hands];simp,m8,by show 1≤q0.R.length+_;omega,by show q0.T.length=0;rw[m3];rfl⟩;have HB5:=ah t5.bel;clear CT2' t5 m1 m2 m3 m4 m5 m6 m7 m8 hIS;go_wp2_with fail;refine SN.out.mono ?_;rintro r w6 ⟨ps,X6,rfl,hs6,hb6,hn6⟩;have HS6:=ah hs6;have HB6:=ah (HB5.out.trans (hb6.mono HB5.out.size));clear hs6 hb6 hn6 SN;go_wp2;have bz:Below w6.heap.size w6 (w6.alloc (.cells #[.pointer (some ⟨pq,0,none⟩),.int .i64 e,.slice none 0 0,.int .i64 0] 89)):=jY;refine bodyPost_ret (v:=.tuple #[.pointer (some ⟨ps,0,none⟩),.pointer (some ⟨w6.heap.size,0,none⟩),.bool true]) (by simp[results,Tryz.results29,go_sem]) rfl ?_;exact⟨w3,pd,pc,pz,E0.dr,pp,ps,w6.heap.size,X6,F5,q0,rfl,(vI (kQ E0.dr pp) ps pp e e).go HS6.out bz,HB13.out,HB6.out.trans (bz.mono HB6.out.size),HJ.out,F1.out.1,F1.out.2.1,F1.out.2.2.1,F1.out.2.2.2.2.2.1⟩
def Ut (p:Po) (o:Ob) (b:List UInt8) (h:Nat):St:=⟨p,[⟨1,o,b,h⟩],1⟩
def twoS (p:Po) (o:Ob) (b:List UInt8) (h:Nat) (o':Ob) (b':List UInt8):St:=⟨p,[⟨1,o,b,h⟩,⟨2,o',b',1⟩],2⟩
section
variable {mn:Int} {O:List (List Int)} {e sz:Nat} {q p:Po} {o o':Ob} {b b' t:List UInt8} {h:Nat} {a k v:Int}
theorem Gm:mW (Ut p o b h).L 1=some ⟨1,o,b,h⟩:=by simp[mW,Ut]
theorem one_take (h0:(kI mn O e q k v).2.1=0):pW mn O e sz ⟨q,[],0⟩ k v=(Ut (kI mn O e q k v).1 (kI mn O e q k v).2.2 (List.replicate sz 0) 1,0,1):=by
 rw[qx h0];rfl
theorem one_put {y:Bk} (hy:y.id=1):(Ut p o b h).put y=⟨p,[y],1⟩:=by simp[St.put,Ut,Al,hy]
theorem Xo (h1:h=1) (ha:0≤a) (hl:a+t.length≤sz):nZ sz (Ut p o b h) 1 a t=(Ut p o (r9 b t a.toNat) h,0):=by
 unfold nZ;rw[Gm];simp only;rw[if_neg om,if_neg om,one_put rfl];rfl
theorem IU {n:Int} (ha:0≤a) (hn:0≤n) (hl:a+n≤sz):lC sz (Ut p o b h) 1 a n=0:=by
 unfold lC;rw[Gm];simp only;rw[if_neg om]
theorem one_read {n:Int} (ha:0≤a) (hn:0≤n) (hl:a+n≤sz):vG sz (Ut p o b h) 1 a n=(b.drop a.toNat).take n.toNat:=by
 unfold vG;rw[Gm];simp only;rw[if_pos (IU ha hn hl)]
end
section
variable {pd pc pz e:Nat} {ev:Nat→Addr} {w0:World} {E:sG pd pc pz e 0 [[0]] ev w0} {w w' W:World} {ps pp:Nat} {s:St} {id a n:Int}
def SX (E:sG pd pc pz e 0 [[0]] ev w0) (pp ps:Nat) (s:St) (W:World):Prop:=∃X F,(vI (kQ E pp) ps pp e e).S X F s W
theorem SX.bel (h:SX E pp ps s W):Below w0.heap.size w0 W:=by obtain⟨X,F,q⟩:=h;exact(vI (kQ E pp) ps pp e e).bel q
theorem SX.go (h:SX E pp ps s W) (k:Below W.heap.size W w'):SX E pp ps s w':=by obtain⟨X,F,q⟩:=h;exact⟨X,F,(vI (kQ E pp) ps pp e e).go q k⟩
theorem SX.inv (h:SX E pp ps s W):uG e e s:=by obtain⟨X,F,q⟩:=h;exact q.2
theorem SX.ord (h:SX E pp ps s W):rM [[0]] s.p.d.c.L.length:=by
 obtain⟨X,F,q⟩:=h;exact PoX.ord (E:=E) (show PoX E X _ pp s.p W from q.1.choose_spec.s)
theorem SX.e64 (h:SX E pp ps s W):1≤e∧e≤64:=⟨h.inv.p.inv.c.e1,h.inv.p.inv.c.e2⟩
theorem sx_take (h:SX E pp ps s W) (k v:Int) (hl:s.p.last<4611686018427387903) (hl2:s.last<4611686018427387903):
 Calls prog 32 #[.pointer (some ⟨ps,0,none⟩),.int .i64 k,.int .i64 v] W fun r w'=>r= .returned (.tuple #[.int .i64 (pW 0 [[0]] e e s k v).2.2,kM ev (pW 0 [[0]] e e s k v).2.1])∧SX E pp ps (pW 0 [[0]] e e s k v).1 w':=by
 have h64:=h.e64;obtain⟨X,F,q⟩:=h;exact(yB k v om hl hl2 q).mono fun r w' ⟨h1,X',h2,_⟩=>⟨h1,X',F,h2⟩
theorem sx_write (h:SX E pp ps s W) (hid:kW id) (ha:kW a) {t:ByteArray} (ht:t.size≤65536):
 Calls prog 34 #[.pointer (some ⟨ps,0,none⟩),.int .i64 id,.int .i64 a,.string t] W fun r w'=>r= .returned (kM ev (nZ e s id a t.data.toList).2)∧SX E pp ps (nZ e s id a t.data.toList).1 w':=by
 have h64:=h.e64;obtain⟨X,F,q⟩:=h;exact(zS om hid ha ht q).mono fun r w' ⟨h1,X',h2,_⟩=>⟨h1,X',F,h2⟩
theorem sx_read (h:SX E pp ps s W) (hid:kW id) (ha:kW a) (hn:kW n):
 Calls prog 33 #[.pointer (some ⟨ps,0,none⟩),.int .i64 id,.int .i64 a,.int .i64 n] W fun r w'=>r= .returned (.tuple #[.string ⟨(vG e s id a n).toArray⟩,kM ev (lC e s id a n)])∧SX E pp ps s w':=by
 have h64:=h.e64;have g:=fun w' k=>h.go (w':=w') k
 obtain⟨X,F,q⟩:=h;exact(zq om hid ha hn q).mono fun r w' ⟨h1,h2⟩=>⟨h1,g w' h2⟩
end
theorem Cz {B:Nat} {ev:Nat→Addr} (w:World) (hE:qC B ev w):
 Calls prog 28 #[] w fun r w'=>r= .returned (.bool true)∧Below w.heap.size w w':=by
 have SH:=ah (show Calls prog 29 #[.int .i64 1,.int .i64 16] w _ from IQ 1 16 w hE om om);clear hE;go_in
 go_wp2_with fail;refine SH.out.mono ?_;rintro r w1 ⟨w3,pd,pc,pz,E,pp,ps,pm,X,F,q,rfl,hS,hb3,hb1,hJ,hM,hR,hT,hl⟩;have S1:SX E pp ps ⟨q,[],0⟩ w1:=⟨X,F,hS⟩;have h0:=hJ.take_yes (k:=0) S1.ord om (fun r=>by simp only at r;rw[r] at hR;simp at hR);have TK0:=sx_take S1 0 0 (by simp only;omega) (by simp only;omega);rw[one_take h0] at TK0;obtain⟨p1,hp1⟩:=eY ((kI 0 [[0]] 16 q 0 0).1);obtain⟨o1,ho1⟩:=eY ((kI 0 [[0]] 16 q 0 0).2.2);rw[←hp1,←ho1] at TK0;have TK:=ah (show Calls prog 32 #[.pointer (some ⟨ps,0,none⟩),.int .i64 0,.int .i64 0] w1 fun r w'=>r= .returned (.tuple #[.int .i64 1,.nilIface])∧SX E pp ps (Ut p1 o1 (List.replicate 16 0) 1) w' from TK0);have HB3:=ah hb3;clear S1 hS h0 TK0 hJ hM hR hT hl hp1 ho1 hb1 SH hb3;go_wp2_with fail;refine TK.out.mono ?_;rintro r w2 ⟨rfl,S2⟩;have WR0:=sx_write (id:=1) (a:=1) (t:=⟨#[97,98]⟩) S2 ⟨om,om⟩ ⟨om,om⟩ (by decide);rw[Xo rfl om (by decide)] at WR0;have WR:=ah (show Calls prog 34 #[.pointer (some ⟨ps,0,none⟩),.int .i64 1,.int .i64 1,.string ⟨#[97,98]⟩] w2 fun r w'=>r= .returned .nilIface∧SX E pp ps (Ut p1 o1 (r9 (List.replicate 16 0) [97,98] 1) 1) w' from WR0);clear S2 WR0 TK;go_wp2_with fail;refine WR.out.mono ?_;rintro r w4 ⟨rfl,S4⟩;have RD0:=sx_read (id:=1) (a:=0) (n:=4) S4 ⟨om,om⟩ ⟨om,om⟩ ⟨om,om⟩;rw[IU om om (by decide),one_read om om (by decide)] at RD0;have RD:=ah (show Calls prog 33 #[.pointer (some ⟨ps,0,none⟩),.int .i64 1,.int .i64 0,.int .i64 4] w4 fun r w'=>r= .returned (.tuple #[.string ⟨#[0,97,98,0]⟩,.nilIface])∧SX E pp ps (Ut p1 o1 (r9 (List.replicate 16 0) [97,98] 1) 1) w' from RD0)
 clear S4 RD0 WR;go_wp2_with fail;refine RD.out.mono ?_;rintro r w5 ⟨rfl,S5⟩;have HB5:=ah (HB3.out.trans (S5.bel.mono HB3.out.size));clear S5 RD;go_wp2;go_ret;exact⟨rfl,HB5.out⟩
