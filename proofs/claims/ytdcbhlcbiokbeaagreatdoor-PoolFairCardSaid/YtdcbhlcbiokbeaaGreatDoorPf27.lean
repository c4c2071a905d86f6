/- Lemmas and contracts for the claim's last text: Pooled, PFair. -/
import Derived.Test.YtdcbhlcbiokbeaaGreatDoorPf01
import Derived.Test.YtdcbhlcbiokbeaaGreatDoorPf26
set_option linter.unusedSimpArgs false
set_option linter.unusedVariables false
set_option maxHeartbeats 16000000
set_option maxRecDepth 100000
namespace Go.Proofs.YtdcbhlcbiokbeaaGreatDoor
section
open Go.RowKit Go.Maps
attribute [local go_sem ↓] aO aP
theorem wZ {pd pc pz e p r:Nat} {ev:Nat→Addr} {w0 w:World} {E:uo pd pc pz e 0 [[0]] ev w0} {X:List Nat} {d:De} (hO:nM [[0]] 1) (h:E.dr.S X [] d w) (ho:uy p e 0 d) (hm:MoI e [] d) (h1:1≤r) (h16:r≤16) (hr:r≤p*iG e):
 Calls Tryz.prog 49 #[.pointer (some ⟨pd,0,none⟩),.int .i64 0,.int .i64 r] w fun en w'=>∃(pp:Nat) (q:Po) (X':List Nat),en= .returned (.tuple #[.pointer (some ⟨pp,0,none⟩),.nilIface])∧PoX E.dr X' [] pp q w'∧yG p e r [] q∧q.R.length=r∧Below w0.heap.size w0 w':=by
 refine(pnew_any 0 r h ⟨h1,h16⟩ hm (by rw[ho.hands];simp)).mono fun en w' hp=> ?_
 obtain⟨f1,f2,f3⟩:=uy.fill hO r (R:=[]) ho om
 rcases hp with⟨q,_⟩|⟨_,pp,q1,q2,X',q3,_⟩
 ·exact absurd f1 q
 ·refine⟨pp,_,X',q1,q3,⟨?_,rfl,⟨?_,.inl ?_⟩,rfl,rfl,rfl,rfl⟩,?_,q3.bel⟩
  ·simp only[sU,List.length_nil,Nat.add_zero]
   rw[f3];exact f2
  ·simp only[sU];rw[f3];simp
  ·simp only[sU];rw[f3];simp
  ·simp only[sU];rw[f3];simp
theorem Bh {B:Nat} {ev:Nat→Addr} (w:World) (hE:mg B ev w):
 Calls Tryz.prog 47 #[] w fun e w'=>e= .returned (.bool true)∧Below w.heap.size w w':=by
 have HE:=ah hE
 have DP:=ah (wP 1 0 64 1 w hE (zD om om) om om om om om)
 have rm:iG 64=1:=by decide
 clear hE
 go_enter Tryz.func47,Tryz.ntmps47
 go_wp2_with fail
 refine(show Calls Tryz.prog 48 #[.int .i64 1,.int .i64 0,.int .i64 64,.int .i64 1] w _ from DP.out).mono ?_
 intro r w1 hp
 obtain⟨w3,pd,pdm,pc,pz,X,d,E,hr,hS,h1,hM,hb1,hb3⟩:=zX (p:=1) HE.out hp
 subst hr
 have hO:nM [[0]] 1:=by
  have:=E.dr.ord hS
  obtain⟨x,hx,_⟩:=h1.full.one
  rw[hx] at this;exact this
 have NW:=ah (wZ (r:=1) hO hS h1 hM om om (by rw[rm];omega))
 have HO:=ah hO;have HB3:=ah hb3
 clear hp hS h1 hM hO DP hb1
 go_wp2_with fail
 refine(show Calls Tryz.prog 49 #[.pointer (some ⟨pd,0,none⟩),.int .i64 0,.int .i64 1] w1 _ from NW.out).mono ?_
 rintro r w2 ⟨pp,q0,X0,rfl,hx,hf,hR,hb2⟩
 have EE:Hid (∀W,Below w3.heap.size w3 W→mg B ev W):=fun W hW=>HE.out.go (HB3.out.trans (hW.mono HB3.out.size))
 have RS:=oK hx
 rw[hR] at RS
 have HRS:=ah (show Calls Tryz.prog 53 #[.pointer (some ⟨pp,0,none⟩)] w2 fun r w'=>r= .returned (.int .i64 1)∧w'=w2 from RS)
 have HX:=ah hx;have HF:=ah hf
 clear hx hf hR hb2 NW RS
 go_wp2_with fail
 refine HRS.out.mono ?_
 rintro r wx ⟨rfl,hw⟩
 obtain rfl:=hw.symm
 have TK:=pX 0 0 (by rw[HF.out.la];omega) HX.out
 obtain⟨t1,t2,t3⟩:=HF.out.take HO.out (by rw[rm];simp)
 obtain⟨⟨q1,c1,o⟩,hq1⟩: ∃r,mG 0 [[0]] 64 q0 0 0=r:=⟨_,rfl⟩
 rw[hq1] at TK t1 t2 t3
 simp only at TK t1 t2 t3
 subst t1
 have HTK:=ah (show Calls Tryz.prog 50 #[.pointer (some ⟨pp,0,none⟩),.int .i64 0,.int .i64 0] w2 (EPost (jw E.dr pp).S X0 [] q1 w2 (.tuple #[.agg #[.int .i64 o.1,.int .i64 o.2],.nilIface])) from TK)
 have HF1:=ah (t2.full (by rw[rm];rfl))
 clear TK t2 t3 hq1 HRS HF
 go_wp2_with fail
 refine HTK.out.mono ?_
 intro r w4 hp
 obtain⟨hr,X4,hR4,_⟩:=(jY.start HX.out:jY (jw E.dr pp) X0 [] w2 [] X0 q0 w2).act hp
 subst hr
 have hRb:=hR4.box (bO o)
 have LB:gX (w4.alloc (bO o)) w4.heap.size [.int .i64 o.1,.int .i64 o.2]:=gX.mk_ w4 [.int .i64 o.1,.int .i64 o.2] 49 rfl
 obtain⟨W4,hW4⟩: ∃W4,w4.alloc (bO o)=W4:=⟨_,rfl⟩
 obtain⟨b6,hb6⟩: ∃b6,w4.heap.size=b6:=⟨_,rfl⟩
 rw[hW4,hb6] at hRb LB
 have HRb:=ah hRb;have HLB:=ah LB
 unfold bO at hW4
 have TK:=pX 0 0 (by rw[HF1.out.la];omega) hRb.t
 obtain⟨t1,t2⟩:=HF1.out.wait HO.out om
 obtain⟨⟨q2,c2,o2⟩,hq2⟩: ∃r,mG 0 [[0]] 64 q1 0 0=r:=⟨_,rfl⟩
 rw[hq2] at TK t1 t2
 simp only at TK t1 t2
 subst t1
 have HTK2:=ah (show Calls Tryz.prog 50 #[.pointer (some ⟨pp,0,none⟩),.int .i64 0,.int .i64 0] W4 (EPost (jw E.dr pp).S (b6::X4) ([b6]++[]) q2 W4 (.tuple #[.agg #[.int .i64 o2.1,.int .i64 o2.2],.iface 434 (.pointer (some (ev 8)))])) from TK)
 have HF2:=ah t2
 clear TK t2 hq2 hp hR4 hRb LB HTK HX
 go_wp2_with fail
 clear hW4 hb6
 refine HTK2.out.mono ?_
 intro r w5 hp
 obtain⟨hr,X5,hR5,hk5⟩:=HRb.out.act hp
 subst hr
 have L5:=jY.loc sI HLB.out hk5
 have hR6:=hR5.box (bO o2)
 have b6':Below w5.heap.size w5 (w5.alloc (bO o2)):=by unfold bO;exact iq
 have L6:=L5.go b6'
 obtain⟨W6,hW6⟩: ∃W6,w5.alloc (bO o2)=W6:=⟨_,rfl⟩
 obtain⟨b8,hb8⟩: ∃b8,w5.heap.size=b8:=⟨_,rfl⟩
 rw[hW6,hb8] at hR6
 rw[hW6] at L6
 have HR6:=ah hR6;have HL6:=ah L6
 unfold bO at hW6
 have e8:iJ ev 8= .iface 434 (.pointer (some (ev 8))):=rfl
 have CD:=wY 8 8 W6 (EE.out W6 ((jw E.dr pp).bel hR6.t)) om rfl
 rw[e8] at CD
 have HCD:=ah CD
 clear CD e8 L5 hR5 hk5 hp hR6 L6 HRb HLB b6' HTK2
 go_wp2_with fail
 clear hW6 hb8
 refine HCD.out.mono ?_
 rintro r w7 ⟨rfl,hb7⟩
 have hR7:=HR6.out.go hb7
 have HL7:=ah (HL6.out.go hb7)
 have RS:=oK hR7.t
 rw[HF2.out.r] at RS
 have HRS:=ah (show Calls Tryz.prog 53 #[.pointer (some ⟨pp,0,none⟩)] w7 fun r w'=>r= .returned (.int .i64 0)∧w'=w7 from RS)
 have WT:=lZ hR7.t
 rw[HF2.out.w,pY] at WT
 have HWT:=ah WT
 have HR7:=ah hR7
 clear RS WT hR7 HCD HR6 HL6 hb7
 go_wp2_with fail
 refine HRS.out.mono ?_
 rintro r wx ⟨rfl,hw⟩
 obtain rfl:=hw.symm
 go_wp2_with fail
 refine HWT.out.mono ?_
 rintro r w8 ⟨⟨q',k',rfl,_⟩,hb8⟩
 have hR8:=HR7.out.go hb8
 have L8:=HL7.out.go hb8
 have x0:=L8.c 0 _ rfl;have x1:=L8.c 1 _ rfl;have xl:=L8.lt
 have fo:oM o:=by
  have ht:=HF2.out.t o sI
  exact hR8.t.inv.zW o ht
 have GV:=wU 0 o fo (by rw[HF2.out.la];omega) hR8.t
 obtain⟨g1,g2,g3,_⟩:=nX.give HF2.out (o:=o) sI
 obtain⟨⟨q3,c3⟩,hq3⟩: ∃r,oI 64 q2 0 o=r:=⟨_,rfl⟩
 rw[hq3] at GV g1 g2 g3
 simp only at GV g1 g2 g3
 subst g1
 have HGV:=ah (show Calls Tryz.prog 54 #[.pointer (some ⟨pp,0,none⟩),.int .i64 0,.agg #[.int .i64 o.1,.int .i64 o.2]] w8 (EPost (jw E.dr pp).S (b8::X5) ([b8,b6]++[]) q3 w8 .nilIface) from GV)
 have HR8:=ah hR8
 have G3:=ah g3
 clear GV g2 g3 hR8 L8 hq3 fo hb8 HRS HWT HR7 HL7
 go_wp2_with fail
 refine HGV.out.mono ?_
 intro r w9 hp
 obtain⟨hr,X9,hR9,_⟩:=HR8.out.act hp
 subst hr
 have WT:=lZ hR9.t
 rw[G3.out,pY] at WT
 have HWT:=ah WT
 have HR9:=ah hR9
 clear WT hR9 hp x0 x1 xl HGV HR8
 go_wp2_with fail
 refine HWT.out.mono ?_
 rintro r w10 ⟨⟨q'',k'',rfl,_⟩,hb10⟩
 go_wp2
 go_ret
 have bl:=((jw E.dr pp).bel HR9.out.t)
 exact⟨rfl,HB3.out.trans ((bl.trans (hb10.mono bl.size)).mono HB3.out.size)⟩
end
section
open Go.RowKit Go.Maps
attribute [local go_sem ↓] aO aP
theorem jY.app {σ:Type} {w0 w W W':World} {E:FEnv σ w0} {X0 F L X:List Nat} {d:σ} {v v':Value} (h:jY E X0 F w L X d W) (hv: ∀y∈gY v,y∈L) (hg:W.grownBy W' v.ownBlock) (hz:v'.ownBlock=v.ownBlock∨v'.ownBlock=some W.heap.size) (hlt: ∀g,v'.ownBlock=some g→g<W'.heap.size):
 ∃L' X',jY E X0 F w L' X' d W'∧∀y∈gY v',y∈L':=by
 have k:=iK hg
 refine⟨_,_,h.put k hv (Y:=(gY v').filter (fun y=>decide (W.heap.size≤y))) (fun y hy=> ?_),fun y hy=> ?_⟩
 ·obtain⟨q1,q2⟩:=bH.1 hy
  exact⟨of_decide_eq_true q2,hlt y (j6.1 q1)⟩
 ·rcases mP hz y hy with r|r
  ·exact aj _ (hv y r)
  ·exact av _ (bH.2 ⟨hy,decide_eq_true r⟩)
theorem uW {B:Nat} {ev:Nat→Addr} (reserve waiters:Int) (w:World) (hE:mg B ev w):
 Calls Tryz.prog 5 #[.int .i64 reserve,.int .i64 waiters] w fun e w'=>e= .returned (.bool true)∧Below w.heap.size w w':=by
 have HE:=ah hE
 have PD:=ah (Bh w hE)
 have rm:iG 64=1:=by decide
 clear hE
 by_cases hbad:reserve<1∨16<reserve∨waiters<0∨8<waiters
 ·have hd:(reserve<1∧decide (reserve<1)=true)∨(¬reserve<1∧decide (reserve<1)=false∧16<reserve∧decide ((16:Int)<reserve)=true)∨(¬reserve<1∧decide (reserve<1)=false∧¬16<reserve∧decide ((16:Int)<reserve)=false∧waiters<0∧decide (waiters<0)=true)∨(¬reserve<1∧decide (reserve<1)=false∧¬16<reserve∧decide ((16:Int)<reserve)=false∧¬waiters<0∧decide (waiters<0)=false∧8<waiters∧decide ((8:Int)<waiters)=true):=by
   by_cases h0:reserve<1
   ·exact .inl ⟨h0,decide_eq_true h0⟩
   by_cases h1:16<reserve
   ·exact .inr (.inl ⟨h0,decide_eq_false h0,h1,decide_eq_true h1⟩)
   by_cases h2:waiters<0
   ·exact .inr (.inr (.inl ⟨h0,decide_eq_false h0,h1,decide_eq_false h1,h2,decide_eq_true h2⟩))
   ·exact .inr (.inr (.inr ⟨h0,decide_eq_false h0,h1,decide_eq_false h1,h2,decide_eq_false h2,om,decide_eq_true om⟩))
  clear hbad
  rcases hd with⟨h0,d0⟩|⟨h0,d0,h1,d1⟩|⟨h0,d0,h1,d1,h2,d2⟩|⟨h0,d0,h1,d1,h2,d2,h3,d3⟩
  all_goals
   go_enter Tryz.func5,Tryz.ntmps5
   go_wp2_with fail
   refine PD.out.mono ?_
   rintro r w1 ⟨rfl,hb1⟩
   go_wp2
   go_ret
   exact⟨rfl,hb1⟩
 obtain⟨rs,rfl⟩: ∃n:Nat,reserve=n:=⟨reserve.toNat,om⟩
 obtain⟨k,rfl⟩: ∃n:Nat,waiters=n:=⟨waiters.toNat,om⟩
 have r1:1≤rs:=om
 have r16:rs≤16:=om
 have k8:k≤8:=om
 have d0:decide ((rs:Int)<1)=false:=decide_eq_false om
 have d1:decide ((16:Int)<(rs:Int))=false:=decide_eq_false om
 have d2:decide ((k:Int)<0)=false:=decide_eq_false om
 have d3:decide ((8:Int)<(k:Int))=false:=decide_eq_false om
 have h0: ¬((rs:Int)<1):=om
 have h1: ¬((16:Int)<(rs:Int)):=om
 have h2: ¬((k:Int)<0):=om
 have h3: ¬((8:Int)<(k:Int)):=om
 clear hbad
 go_enter Tryz.func5,Tryz.ntmps5
 go_wp2_with fail
 refine PD.out.mono ?_
 rintro r w1 ⟨rfl,hb1⟩
 have HE1:=ah (HE.out.go hb1)
 have DP:=ah (wP 16 0 64 1 w1 HE1.out (zD om om) om om om om om)
 have HB1:=ah hb1
 clear PD hb1
 go_wp2_with fail
 refine(show Calls Tryz.prog 48 #[.int .i64 16,.int .i64 0,.int .i64 64,.int .i64 1] w1 _ from DP.out).mono ?_
 intro r w2 hp
 obtain⟨w3,pd,pdm,pc,pz,X,d,E,hr,hS,o1,hM,hb2,hb3⟩:=zX (p:=16) HE1.out hp
 subst hr
 have hO:nM [[0]] 1:=by
  have:=E.dr.ord hS
  obtain⟨x,hx,_⟩:=o1.full.one
  rw[hx] at this;exact this
 have NW:=ah (wZ (r:=rs) hO hS o1 hM r1 r16 (by rw[rm];omega))
 have HO:=ah hO;have HB3:=ah (HB1.out.trans (hb3.mono HB1.out.size))
 clear hp hS o1 hM hO DP hb2 hb3
 go_wp2_with fail
 refine NW.out.mono ?_
 rintro r w4 ⟨pp,q0,X0,rfl,hx,hf,hR,hb4⟩
 have EE:Hid (∀W,Below w3.heap.size w3 W→mg B ev W):=fun W hW=>HE.out.go (HB3.out.trans (hW.mono HB3.out.size))
 have S0:=ah (jY.start hx:jY (jw E.dr pp) X0 [] w4 [] X0 q0 w4)
 have HF:=ah hf
 clear hx hf hR hb4 NW
 go_wp2_with fail
 go_loopw [11,12] (fun lv iv wr=>∃(i:Nat) (q:Option Addr) (kk:Nat) (l:List Ob) (L X:List Nat) (p:Po),i≤16∧iv= .int .i64 i∧lv= .slice q i kk∧Hid (wr.ownsRow w4.heap.size 49 2 (.slice q i kk) i (lU l))∧Hid (jY (jw E.dr pp) X0 [] w4 L X p wr)∧Hid (l.length=i∧∀y∈gY (.slice q i kk),y∈L)∧Hid (yG 16 64 rs l p)) (fun _ iv _=>16-(intOf iv).toNat)
 case atStart=>exact⟨0,none,0,[],[],X0,q0,om,by go_num,rfl,bG _ _ _ _,S0,⟨rfl,fun y q=>(by cases q)⟩,HF⟩
 case round=>
  obtain⟨i,q,kk,l,L,X,p,hi,rfl,rfl,HOW,HS,HL,HA⟩:=hrel
  clear S0 HF
  by_cases hlt:i<16
  ·have hli:(i:Int)<16:=by omega
   have hl0:(0:Int)≤(i:Int):=om
   have hA1:=HA.out.la
   have TK:=pX 0 0 (by rw[hA1];omega) HS.out.t
   obtain⟨t1,t2,t3⟩:=HA.out.take HO.out (by rw[rm,HL.out.1];omega)
   obtain⟨⟨p1,c1,o⟩,hq1⟩: ∃r,mG 0 [[0]] 64 p 0 0=r:=⟨_,rfl⟩
   rw[hq1] at TK t1 t2 t3
   simp only at TK t1 t2 t3
   subst t1
   have HTK:=ah (show Calls Tryz.prog 50 #[.pointer (some ⟨pp,0,none⟩),.int .i64 0,.int .i64 0] wr (EPost (jw E.dr pp).S X (L++[]) p1 wr (.tuple #[.agg #[.int .i64 o.1,.int .i64 o.2],.nilIface])) from TK)
   have HA1:=ah t2
   clear TK t2 t3 hq1 hA1
   go_wp2_with fail
   refine HTK.out.mono ?_
   intro r w5 hp
   obtain⟨hr,X5,hR5,hk5⟩:=HS.out.act hp
   subst hr
   have O5:=gZ HOW.out hk5 (fun s hs q=>(iO.1 hs).2 (av _ (HL.out.2 s q)))
   have b6:Below w5.heap.size w5 (w5.alloc (bO o)):=by unfold bO;exact iq
   have R6:=hR5.go b6
   have O6:=gZ O5 (Keep.of (S:=[]) b6) (fun s hs=>by cases hs)
   have LB:gX (w5.alloc (bO o)) w5.heap.size [.int .i64 o.1,.int .i64 o.2]:=gX.mk_ w5 [.int .i64 o.1,.int .i64 o.2] 49 rfl
   obtain⟨W6,hW6⟩: ∃W6,w5.alloc (bO o)=W6:=⟨_,rfl⟩
   rw[hW6] at R6 O6 LB
   have x0:=LB.c 0 _ rfl;have x1:=LB.c 1 _ rfl;have xl:=LB.lt
   have HR6:=ah R6;have HO6:=ah O6
   unfold bO at hW6
   clear hp hR5 hk5 O5 b6 R6 O6 LB HTK
   go_wp2_with (first|(at_builtin;refine wL elObj (base:=w4.heap.size) (v:=.slice q i kk) (n:=i) (ms:=[.int .i64 o.1,.int .i64 o.2]) (ad:=⟨W6.heap.size,0,none⟩) rf (.tmp 73) (.tmp 75) rf rf rf (HO6.out.alloc _) rfl (qd W6 _ _ _) (qg _ _) om (by have:=HR6.out.k.size;simp;omega) ?_;intro q4 k4 w8 hown8 hg8 hob8))
   obtain⟨L8,X8,hR8,hL8⟩:=(HR6.out.go (show Below W6.heap.size W6 (W6.alloc (.cells #[.int .i64 o.1,.int .i64 o.2] 49)) from iq)).app (fun y hy=>HL.out.2 y hy) hg8 hob8 (fun g hg=>(hown8.lt g hg).2)
   have HR8:=ah hR8
   have HO8:=ah (show w8.ownsRow w4.heap.size 49 2 (.slice q4 (i+1) k4) (i+1) (lU (l++[o])) from by rw[kM];exact hown8)
   have HL8:Hid ((l++[o]).length=i+1∧∀y∈gY (.slice q4 (i+1) k4),y∈L8):=⟨by rw[bM,HL.out.1];rfl,hL8⟩
   clear hown8 hg8 hob8 hR8 hL8
   go_wp2
   go_roundw
   case rel=>exact⟨i+1,q4,k4,l++[o],L8,X8,p1,om,by go_num,rfl,HO8,HR8,HL8,HA1⟩
   case measure=>simp[intOf];omega
  ·obtain rfl:i=16:=by omega
   have HBz:=ah (HA.out.full (by rw[HL.out.1,rm]))
   clear hlt HA hi
   rw[show((16:Nat):Int)=16 from rfl]
   go_wp2_with fail
   go_loopw [15] (fun iv ws=>∃(j:Nat) (X:List Nat) (L:List Nat) (p:Po),j≤k∧iv= .int .i64 j∧Hid (ws.ownsRow w4.heap.size 49 2 (.slice q 16 kk) 16 (lU l))∧Hid (jY (jw E.dr pp) X0 [] w4 L X p ws)∧Hid (∀y∈gY (.slice q 16 kk),y∈L)∧Hid (nX 16 64 l 0 j p)) (fun iv _=>k-(intOf iv).toNat)
   case atStart=>exact⟨0,X,L,p,bC _,by go_num,HOW,HS,HL.out.2,HBz⟩
   case round=>
    obtain⟨j,X,L,p,hj,rfl,HOW,HS,HLL,HA⟩:=hrel
    clear HBz
    have HLN:Hid (l.length=16):=HL.out.1
    clear HL
    by_cases hlt:j<k
    ·have hli:(j:Int)<(k:Int):=by omega
     have hl0:(0:Int)≤(j:Int):=om
     have hA1:=HA.out.la
     have TK:=pX 0 0 (by rw[hA1];omega) HS.out.t
     obtain⟨t1,t2⟩:=HA.out.wait HO.out om
     obtain⟨⟨p1,c1,o⟩,hq1⟩: ∃r,mG 0 [[0]] 64 p 0 0=r:=⟨_,rfl⟩
     rw[hq1] at TK t1 t2
     simp only at TK t1 t2
     subst t1
     have HTK:=ah (show Calls Tryz.prog 50 #[.pointer (some ⟨pp,0,none⟩),.int .i64 0,.int .i64 0] wr (EPost (jw E.dr pp).S X (L++[]) p1 wr (.tuple #[.agg #[.int .i64 o.1,.int .i64 o.2],.iface 434 (.pointer (some (ev 8)))])) from TK)
     have HA1:=ah t2
     clear TK t2 hq1 hA1
     go_wp2_with fail
     refine HTK.out.mono ?_
     intro r w5 hp
     obtain⟨hr,X5,hR5,hk5⟩:=HS.out.act hp
     subst hr
     have O5:=gZ HOW.out hk5 (fun s hs q=>(iO.1 hs).2 (av _ (HLL.out s q)))
     have b6:Below w5.heap.size w5 (w5.alloc (bO o)):=by unfold bO;exact iq
     have R6:=hR5.go b6
     have O6:=gZ O5 (Keep.of (S:=[]) b6) (fun s hs=>by cases hs)
     obtain⟨W6,hW6⟩: ∃W6,w5.alloc (bO o)=W6:=⟨_,rfl⟩
     rw[hW6] at R6 O6
     have CD:=wY 8 8 W6 (EE.out W6 ((jw E.dr pp).bel R6.t)) om rfl
     have HCD:=ah (show Calls Tryz.prog 51 #[.iface 434 (.pointer (some (ev 8))),.int .i64 8] W6 fun e w'=>e= .returned (.bool true)∧Below W6.heap.size W6 w' from CD)
     have HR6:=ah R6;have HO6:=ah O6
     unfold bO at hW6
     clear hp hR5 hk5 O5 b6 R6 O6 HTK CD
     go_wp2_with fail
     clear hW6
     refine HCD.out.mono ?_
     rintro r w7 ⟨rfl,hb7⟩
     have HR7:=ah (HR6.out.go hb7)
     have HO7:=ah (gZ HO6.out (Keep.of (S:=[]) hb7) (fun s hs=>by cases hs))
     clear HR6 HO6 HCD hb7
     go_wp2
     go_roundw
     case rel=>exact⟨j+1,X5,L,p1,om,by go_num,HO7,HR7,HLL,HA1⟩
     case measure=>simp[intOf];omega
    ·obtain rfl:j=k:=by omega
     have HA0:Hid (nX 16 64 l 0 (j-0) p):=HA.out
     clear hlt HA hj
     go_wp2_with fail
     go_loopw [18] (fun iv wt=>∃(t:Nat) (X:List Nat) (L:List Nat) (p:Po),t≤j∧iv= .int .i64 t∧Hid (wt.ownsRow w4.heap.size 49 2 (.slice q 16 kk) 16 (lU l))∧Hid (jY (jw E.dr pp) X0 [] w4 L X p wt)∧Hid (∀y∈gY (.slice q 16 kk),y∈L)∧Hid (nX 16 64 l t (j-t) p)) (fun iv _=>j-(intOf iv).toNat)
     case atStart=>exact⟨0,X,L,p,bC _,by go_num,HOW,HS,HLL,HA0⟩
     case round=>
      obtain⟨t,X,L,p,ht,rfl,HOW,HS,HLL,HA⟩:=hrel
      clear HA0
      by_cases hlt:t<j
      ·obtain⟨m,hm⟩: ∃m,j-t=m+1:=⟨j-t-1,om⟩
       have hli:(t:Int)<(j:Int):=om
       have hl0:(0:Int)≤(t:Int):=om
       have HA2:Hid (nX 16 64 l t (m+1) p):=by have:=HA.out;rw[hm] at this;exact this
       have HM:Hid (j-(t+1)=m):=by show _=_;omega
       have hsb:IntKind.i64.wrap ((j:Int)-(t:Int))=((m+1:Nat):Int):=by rw[bU _ om];omega
       have m7:m≤7:=om
       have hmj:t+(m+1)=j:=om
       have HMJ:=ah hmj
       obtain⟨o,ho⟩: ∃o,l[t]?=some o:=⟨l[t]'(by rw[HLN.out];omega),aA _⟩
       have HOB:=ah ho
       have WT:=lZ HS.out.t
       rw[HA2.out.w,pY,wX] at WT
       have HWT:=ah WT
       clear WT HA hm ho hmj
       go_wp2_with fail
       refine HWT.out.mono ?_
       rintro r w5 ⟨⟨q5,k5,rfl,hw5⟩,hb5⟩
       obtain⟨g5,rfl⟩: ∃g5,q5=some ⟨g5,0,none⟩:=by
        rcases hw5.2 with⟨_,e2⟩|⟨g,cap,cur,e,_⟩
        ·omega
        ·exact⟨g,(fP e).1⟩
       have c5:=hw5.cellAt 0 om
       simp only[ints,bF,gB] at c5
       have g5l:=(hw5.lt g5 rfl).2
       have HR5:=ah (HS.out.go hb5)
       have HO5:=ah (gZ HOW.out (Keep.of (S:=[]) hb5) (fun s hs=>by cases hs))
       have RS:=oK HR5.out.t
       rw[HA2.out.r] at RS
       have HRS:=ah (show Calls Tryz.prog 53 #[.pointer (some ⟨pp,0,none⟩)] w5 fun r w'=>r= .returned (.int .i64 0)∧w'=w5 from RS)
       clear RS HWT hw5 hb5
       go_wp2_with fail
       refine HRS.out.mono ?_
       rintro r wx ⟨rfl,hw⟩
       obtain rfl:=hw.symm
       have own':=HO5.out
       rw[←HLN.out] at own'
       obtain⟨g,eg,k1,k2,gl,y0,y1⟩:=Dq own' HOB.out
       subst eg
       unfold maxLen at k2
       have hl16:(t:Int)<16:=om
       have ho':o∈l:=aD HOB.out
       have fo:oM o:=HR5.out.t.inv.zW o (HA2.out.t o ho')
       obtain⟨g1,g2,_,g3,g4⟩:=nX.give HA2.out ho'
       have hla:p.last<4611686018427387904:=by rw[HA2.out.la];omega
       have GV:=wU 0 o fo hla HR5.out.t
       obtain⟨⟨p3,c3⟩,hq3⟩: ∃r,oI 64 p 0 o=r:=⟨_,rfl⟩
       rw[hq3] at GV g1 g2 g3 g4
       simp only at GV g1 g2 g3 g4
       subst g1
       have HGV:=ah (show Calls Tryz.prog 54 #[.pointer (some ⟨pp,0,none⟩),.int .i64 0,.agg #[.int .i64 o.1,.int .i64 o.2]] w5 (EPost (jw E.dr pp).S X (L++[]) p3 w5 .nilIface) from GV)
       have G3:=ah g3;have G4:=ah g4
       clear GV g2 g3 g4 hq3 fo ho' own' k1 HRS hla
       go_wp2_with fail
       refine HGV.out.mono ?_
       intro r w9 hp
       obtain⟨hr,X9,hR9,hk9⟩:=HR5.out.act hp
       subst hr
       have HR9:=ah hR9
       have HO9:=ah (gZ HO5.out hk9 (fun s hs q=>(iO.1 hs).2 (av _ (HLL.out s q))))
       have RD:=Bc ((t:Int)+1) (by unfold lW;omega) hR9.t
       obtain⟨⟨p4,c4,b4,o4⟩,hq4⟩: ∃r,lN p3 ((t:Int)+1)=r:=⟨_,rfl⟩
       have G3':=G3.out;have G4':=G4.out
       rw[hq4] at RD G3' G4'
       simp only at RD G3' G4'
       obtain⟨rfl,rfl,rfl⟩:c4=0∧b4=true∧o4=o:=by
        have:=Prod.mk.inj G3'
        exact⟨this.1,(Prod.mk.inj this.2).1,(Prod.mk.inj this.2).2⟩
       have HRD:=ah (show Calls Tryz.prog 55 #[.pointer (some ⟨pp,0,none⟩),.int .i64 ((t:Int)+1)] w9 (EPost (jw E.dr pp).S X9 (L++[]) p4 w9 (.tuple #[.agg #[.int .i64 o4.1,.int .i64 o4.2],.bool true,.nilIface])) from RD)
       have HF4:Hid (nX 16 64 l (t+1) (j-(t+1)) p4):=by rw[HM.out];exact G4'
       clear RD G3' G4' G3 G4 hq4 hp hR9 hk9 HGV HR5 HO5 y0 y1 c5
       go_wp2_with fail
       refine HRD.out.mono ?_
       intro r w10 hp
       obtain⟨hr,X10,hR10,hk10⟩:=HR9.out.act hp
       subst hr
       have b11:Below w10.heap.size w10 (w10.alloc (bO o4)):=by unfold bO;exact iq
       have HR11:=ah (hR10.go b11)
       have O10:=gZ HO9.out hk10 (fun s hs q=>(iO.1 hs).2 (av _ (HLL.out s q)))
       have HO11:=ah (gZ O10 (Keep.of (S:=[]) b11) (fun s hs=>by cases hs))
       have LB:gX (w10.alloc (bO o4)) w10.heap.size [.int .i64 o4.1,.int .i64 o4.2]:=gX.mk_ w10 [.int .i64 o4.1,.int .i64 o4.2] 49 rfl
       obtain⟨W11,hW11⟩: ∃W11,w10.alloc (bO o4)=W11:=⟨_,rfl⟩
       rw[hW11] at HR11 HO11 LB
       have x0:=LB.c 0 _ rfl;have x1:=LB.c 1 _ rfl;have xl:=LB.lt
       have own':=HO11.out
       rw[←HLN.out] at own'
       obtain⟨g',eg,k1,k2',gl',y0,y1⟩:=Dq own' HOB.out
       obtain rfl:g=g':=by injection eg with e1;injection e1
       have nb:=neqO;have gb:=guardO
       have hne:(o4.1==o4.1&&o4.2==o4.2)=true:=sI
       unfold bO at hW11
       clear hp hR10 hk10 b11 O10 LB own' k1 eg k2' HRD HR9 HO9
       go_wp2_with fail
       clear hW11
       go_quiet (fail)
       go_wp2
       go_roundw
       case rel=>exact⟨t+1,X10,L,p4,om,by go_num,gZ HO11.out (Keep.of (S:=[]) (show Below W11.heap.size W11 _ from iq)) (fun s hs=>by cases hs),HR11.out.go iq,HLL,HF4⟩
       case measure=>simp[intOf];omega
      ·obtain rfl:t=j:=by omega
       have WT:=lZ HS.out.t
       rw[HA.out.w,pY,Nat.sub_self] at WT
       have HWT:=ah WT
       clear WT
       go_wp2_with fail
       refine HWT.out.mono ?_
       rintro r w10 ⟨⟨q'',k'',rfl,_⟩,hb10⟩
       go_wp2
       go_ret
       have bl:=((jw E.dr pp).bel HS.out.t)
       exact⟨rfl,HB3.out.trans ((bl.trans (hb10.mono bl.size)).mono HB3.out.size)⟩
end
end Go.Proofs.YtdcbhlcbiokbeaaGreatDoor
