/- Lemmas and contracts for the claim's last text: SActs, Laid. -/
import Derived.Test.YtdcbhlcbiokbeaaGreatDoorSa01
import Derived.Test.YtdcbhlcbiokbeaaGreatDoorSa03
import Derived.Test.YtdcbhlcbiokbeaaGreatDoorSa17
import Derived.Test.YtdcbhlcbiokbeaaGreatDoorSa19
set_option linter.unusedSimpArgs false
set_option linter.unusedVariables false
set_option maxHeartbeats 16000000
set_option maxRecDepth 100000
namespace Go.Proofs.YtdcbhlcbiokbeaaGreatDoor
section
open Go.RowKit Go.Maps
attribute [local go_sem ↓] bA bB
theorem snew_nil {B:Nat} {ev:Nat→Addr} (e:Int) (w:World) (hE:jV B ev w):
 Calls Tryz.prog 20 #[.pointer none,.int .i64 e] w fun r w'=>r= .returned (.tuple #[.pointer none,iP ev 3])∧Below w.heap.size w w':=by
 have r3:=hE.c3
 have e1:iP ev 3= .iface 434 (.pointer (some (ev 3))):=rfl
 have l3:=aG hE.l3 hE.size
 rw[e1] at r3 ⊢
 clear hE
 go_enter Tryz.func20,Tryz.ntmps20
 go_wp2_with fail
 go_quiet (fail)
 go_wp2
 go_ret2
 exact⟨rfl,gI⟩
theorem uJ {P:Program} {ops:Array Oper} {o:Oper} {a:Act} {w:World} {K:Act→World→Prop} {Q:Exit→Act→World→Prop} {F:Prop} (hg:o.guard=none)
 (f:FuncId) (args:Array Value) (hrun:(execOp a.eval o).run P w= .ok (.enter f args) w) {R:Ending→World→Prop} (hc:Calls P f args w R) (hK: ∀en w',R en w'→∃v,en= .returned v∧K (a.put o.dst v) w'):
 if Region.wanted o (yielded ops a.tmps)=true then Oper.wp P o a w K Q else F:=by
 have hw:Region.wanted o (yielded ops a.tmps)=true:=by simp[Region.wanted,hg]
 rw[if_pos hw]
 unfold Oper.wp
 rw[hrun,Oper.upon_enter]
 refine hc.mono fun e w'' hh=> ?_
 obtain⟨v,rfl,hk⟩:=hK _ _ hh
 exact hk
section
variable {X:List Nat} {w3 w5 w11 w12 w13:World} {pc pz pm gN e:Nat} {mn lw hi:Int} {O:List (List Int)} {M:List Nat} {L:List Nd}
theorem CZX.start (hc:CS w3.heap.size w5 pc pz mn lw hi O e (pc::ys L) (.slice none 0 0) [] ⟨L,[]⟩) (b5:Below w5.heap.size w5 w11) (hrz:RZ X w12 pm gN mn lw hi O M L) (h1: ∀x∈X,(x∈pc::ys L∨w11.heap.size≤x)∧x<w12.heap.size) (h2: ∀y∈pc::ys L,y∈X) (h3:pm∉pc::ys L) (h4:gN∉pc::ys L) (h5: ∀m∈M,m∉pc::ys L)
 (b12:Below w11.heap.size w11 w12) (bel:Below w3.heap.size w3 w5) (hw:w13=w12.alloc (.cells #[.pointer (some ⟨pm,0,none⟩),.int .i64 e,.slice none 0 0] 47)):
 CZX w3 (w12.heap.size::X) [] pc pz w12.heap.size pm gN e mn lw hi O ⟨L,[]⟩ ⟨L,[]⟩ w13:=by
 have b13:Below w12.heap.size w12 w13:=by rw[hw];exact gI
 have z12:=b12.size
 have z5:=b5.size
 have s13:w13.heap.size=w12.heap.size+1:=by rw[hw];simp
 have n1: ∀y∈w12.heap.size::X,y∈pc::ys L∨w11.heap.size≤y:=fun y hy=>by
  rcases aC.1 hy with rfl|q
  ·exact .inr z12
  ·exact(h1 y q).1
 have hcay:cay pc (.slice none 0 0) []=[pc]:=rfl
 have hrc:vO w12.heap.size []=[w12.heap.size]:=rfl
 have lpm:pm<w12.heap.size:=by obtain⟨vP,vN,kn,ko,qo,q1,_⟩:=hrz.z;exact q1.lt
 have lgN:=hrz.nodes.lt
 have old: ∀y∈pc::ys L,w3.heap.size≤y∧y<w5.heap.size:=fun y hy=>by
  rcases aC.1 hy with rfl|q
  ·exact hc.ch.lim _ (by rw[hcay];simp)
  ·exact hc.z.b.lim y q
 refine⟨M,.slice none 0 0,.slice none 0 0,[],[],⟨((hc.below b5).more (fun x hx=>aj _ (h2 x hx)) n1).below (b12.trans (b13.mono z12)),⟨(hrz.more (fun x hx=>aj _ hx) (fun y hy=> ?_)).below b13,⟨?_,j6.nil _ _,rfl,fun i p s hp=>by simp at hp,fun y hy=> ?_,?_,.inl rfl⟩,fun y hy=> ?_⟩,fun y hy=> ?_,fun x hx=> ?_,bel.trans ((b5.trans ((b12.trans (b13.mono z12)).mono z5)).mono bel.size)⟩,fun f hf=>(by cases hf)⟩
 ·rcases aC.1 hy with rfl|q
  ·exact .inr (aH _)
  ·exact .inl q
 ·rw[hw];exact gH.mk_ w12 [.pointer (some ⟨pm,0,none⟩),.int .i64 e,.slice none 0 0] 47 rfl
 ·rw[hrc] at hy;simp at hy;subst hy;exact aD ..
 ·rw[hrc];simp
 ·rw[hrc] at hy;simp at hy;subst hy
  exact⟨om,om,fun q=>by have:=hrz.lt q;omega⟩
 ·rw[hcay]
  rcases aF.1 hy with q|q
  ·rw[hrc] at q;simp at q;subst q
   refine⟨fun r=> ?_,fun r=> ?_⟩
   ·have r2:=aZ.1 r;have:=(old pc (aD ..)).2;omega
   ·have:=(old _ (aj _ r)).2;omega
  ·have hn:y∉pc::ys L:=by
    rcases aC.1 q with rfl|q
    ·exact h3
    ·rcases aC.1 q with rfl|q
     ·exact h4
     ·exact h5 y q
   exact⟨fun r=>hn (by rw[aZ.1 r];exact aD ..),fun r=>hn (aj _ r)⟩
 ·refine⟨?_,?_⟩
  ·rcases n1 x hx with q|q
   ·exact(old x q).1
   ·have:=bel.size;omega
  ·rcases aC.1 hx with rfl|q
   ·omega
   ·have:=(h1 x q).2;omega
end
theorem vL {B:Nat} {ev:Nat→Addr} (vP vN vl:Value) (P:List Int) (N:List (List Int)) (mn lw hi:Int) (size:Int) (xs:List vK) (w:World) (hE:oW B ev w) (hC:Cfg [] w vP vN P N) (hfit:hi≤9223372036854775807) (hx:yL w vl xs):
 Calls Tryz.prog 3 #[.agg #[vP,vN,.int .i64 mn,.int .i64 lw,.int .i64 hi],.int .i64 size,vl] w fun e w'=>e= .returned (.bool true)∧Below w.heap.size w w':=by
 have hB:=hE.size
 obtain⟨p,cap,rfl,hcp,hmx,hcl⟩:=hC.p.int
 obtain⟨q,k,rfl,hck,hkm,_⟩:=hC.n.form
 obtain⟨pl,kl,rfl,⟨hkl,hml⟩,hxx⟩:=id hx
 have L0:=ah (gH.mk_ w [.slice p P.length cap,.slice q N.length k,.int .i64 mn,.int .i64 lw,.int .i64 hi] 27 rfl)
 have hb0:Below w.heap.size w (w.alloc (.cells [.slice p P.length cap,.slice q N.length k,.int .i64 mn,.int .i64 lw,.int .i64 hi].toArray 27)):=gI
 have HE:=ah hE;have HB0:=ah hb0;have HX:=ah hx
 have CF:Hid (∀W,Below w.heap.size w W→Cfg [] W (.slice p P.length cap) (.slice q N.length k) P N):=fun W hW=>hC.below hW
 have EE:Hid (∀W,Below w.heap.size w W→oW B ev W):=fun W hW=>hE.go hW
 have CA:=ah (Bb _ (hE.go hb0))
 obtain⟨n,hn⟩: ∃n,n=xs.length:=⟨_,rfl⟩
 have HN:=ah hn
 rw[←hn] at hkl HX ⊢
 unfold maxLen at hmx hkm hml
 clear hE hC hx hb0 hn hxx hcl
 go_enter Tryz.func3,Tryz.ntmps3
 go_wp2_with fail
 refine CA.out.mono ?_
 rintro e w1 ⟨rfl,hb1⟩
 have K1:Below w.heap.size w w1:=HB0.out.trans (hb1.mono sI)
 have HM1:=ah (L0.out.go hb1)
 have m0:=HM1.out.c 0 _ rfl;have m1:=HM1.out.c 1 _ rfl;have m2:=HM1.out.c 2 _ rfl;have m3:=HM1.out.c 3 _ rfl;have m4:=HM1.out.c 4 _ rfl;have ml:=HM1.out.lt
 have WI:=ah (wide_any (.slice p P.length cap) (.slice q N.length k) P N mn lw hi w1 (CF.out w1 K1))
 clear CA
 go_wp2_with fail
 refine WI.out.mono ?_
 rintro e w2 ⟨rfl,hb2⟩
 have K2:Below w.heap.size w w2:=K1.trans (hb2.mono K1.size)
 cases hw:wQ P N with
 |true=>
  have ew:pQ P N=1:=by unfold pQ;rw[if_pos hw]
  rw[ew]
  clear hw ew
  go_wp2
  go_ret
  exact⟨rfl,K2⟩
 |false=>
 have ew:pQ P N=0:=by unfold pQ;rw[hw];rfl
 rw[ew]
 have HW:=ah (wideC_no hw)
 clear hw ew WI
 by_cases h80:80<n
 ·go_wp2
  go_ret
  exact⟨rfl,K2⟩
 have HM2:=ah (HM1.out.go hb2)
 have a0:=HM2.out.c 0 _ rfl;have a1:=HM2.out.c 1 _ rfl;have a2:=HM2.out.c 2 _ rfl;have a3:=HM2.out.c 3 _ rfl;have a4:=HM2.out.c 4 _ rfl;have al:=HM2.out.lt
 clear m0 m1 m2 m3 m4 ml
 have OF:Hid (∀W,Below w.heap.size w W→Calls Tryz.prog 19 #[.agg #[.slice p P.length cap,.slice q N.length k,.int .i64 mn,.int .i64 lw,.int .i64 hi]] W fun e w'=>∃vP' vN',e= .returned (.agg #[vP',vN',.int .i64 mn,.int .i64 lw,.int .i64 hi])∧Cfg [] w' vP' vN' P N∧Below W.heap.size W w'):=fun W hW=>xY (X:=[]) _ _ P N mn lw hi W (CF.out W hW) (fun x hx=>by cases hx) HW.out.1 HW.out.2.1 HW.out.2.2
 have CE0:=Bu [] (.slice p P.length cap) (.slice q N.length k) P N mn lw hi w2 (CF.out w2 K2)
 by_cases hcE:mq P N mn lw hi=0
 case neg=>
  obtain⟨ce,hce⟩: ∃ce,ce=mq P N mn lw hi:=⟨_,rfl⟩
  rw[←hce] at CE0 hcE
  have hp:decide ((0:Int)<(ce:Int))=true:=decide_eq_true om
  have hp0:0<ce:=om
  have hp1:(0:Int)<(ce:Int):=om
  have CE:=ah CE0
  clear CE0 hce hcE
  go_wp2_with fail
  refine CE.out.mono ?_
  rintro e w3 ⟨rfl,hb3⟩
  go_wp2
  go_ret
  exact⟨rfl,K2.trans (hb3.mono K2.size)⟩
 rw[hcE] at CE0
 have CE:=ah (show Calls Tryz.prog 17 #[.agg #[.slice p P.length cap,.slice q N.length k,.int .i64 mn,.int .i64 lw,.int .i64 hi]] w2 fun e w'=>e= .returned (.int .i64 0)∧Below w2.heap.size w2 w' from CE0)
 have HCE:=ah hcE
 clear CE0 hcE
 go_wp2_with fail
 refine CE.out.mono ?_
 rintro e w2' ⟨rfl,hb2'⟩
 have K2':Below w.heap.size w w2':=K2.trans (hb2'.mono K2.size)
 have HM2':=ah (HM2.out.go hb2')
 clear a0 a1 a2 a3 a4 al
 have a0:=HM2'.out.c 0 _ rfl;have a1:=HM2'.out.c 1 _ rfl;have a2:=HM2'.out.c 2 _ rfl;have a3:=HM2'.out.c 3 _ rfl;have a4:=HM2'.out.c 4 _ rfl;have al:=HM2'.out.lt
 clear CE
 go_wp2_with fail
 refine(OF.out w2' K2').mono ?_
 rintro e w3 ⟨vP',vN',rfl,hcfg,hb3⟩
 have K3:Below w.heap.size w w3:=K2'.trans (hb3.mono K2'.size)
 have HM3:=ah (HM2'.out.go hb3)
 have NW:=ah (uj [] vP' vN' P N mn lw hi w3 (EE.out w3 K3).c hcfg HCE.out hfit)
 clear hcfg a0 a1 a2 a3 a4 al
 go_wp2_with fail
 refine NW.out.mono ?_
 rintro e w4 ⟨pz,O,L,rfl,hz,hpz,hLn,hLF,hO,hb4⟩
 have z4:=hb4.size
 have HZ:=ah hz
 have HLN:=ah hLn;have HLF:=ah hLF;have HO:=ah hO
 have hLP:L.length=P.length:=by rw[←hLn,List.length_map]
 have hP4:1≤P.length∧P.length≤4:=⟨(zN HCE.out).1,(zN HCE.out).2.1⟩
 have K4:Below w.heap.size w w4:=K3.trans (hb4.mono K3.size)
 have HM4:=ah (HM3.out.go hb4)
 clear hz hLn hLF hO NW
 have e2:iP ev 2= .iface 434 (.pointer (some (ev 2))):=rfl
 have e3:iP ev 3= .iface 434 (.pointer (some (ev 3))):=rfl
 have SN3:Hid (∀W,Below w.heap.size w W→Calls Tryz.prog 20 #[.pointer none,.int .i64 size] W fun r w'=>r= .returned (.tuple #[.pointer none,.iface 434 (.pointer (some (ev 3)))])∧Below W.heap.size W w'):=fun W hW=>by rw[←e3];exact snew_nil size W (EE.out W hW).c
 have CD3:Hid (∀W,Below w.heap.size w W→Calls Tryz.prog 21 #[.iface 434 (.pointer (some (ev 3))),.int .i64 3] W fun e w'=>e= .returned (.bool true)∧Below W.heap.size W w'):=fun W hW=>by rw[←e3];exact kP 3 3 W (EE.out W hW) om rfl
 have CD2:Hid (∀W,Below w.heap.size w W→Calls Tryz.prog 21 #[.iface 434 (.pointer (some (ev 2))),.int .i64 2] W fun e w'=>e= .returned (.bool true)∧Below W.heap.size W w'):=fun W hW=>by rw[←e2];exact kP 2 2 W (EE.out W hW) om rfl
 by_cases hs:size<1∨64<size
 ·have SN:=snew_err (B:=B) (ev:=ev) pz size w4 (EE.out w4 K4).c hs
  rw[e2] at SN
  have HSN:=ah SN
  have hd:(size<1∧decide (size<1)=true)∨(¬size<1∧decide (size<1)=false∧decide (64<size)=true):=by
   by_cases h0:size<1
   ·exact .inl ⟨h0,decide_eq_true h0⟩
   ·exact .inr ⟨h0,decide_eq_false h0,decide_eq_true om⟩
  clear SN e2 e3 hs
  go_wp2_with fail
  refine HSN.out.mono ?_
  rintro r w5 ⟨rfl,hb5⟩
  have K5:Below w.heap.size w w5:=K4.trans (hb5.mono K4.size)
  go_wp2_with fail
  refine(SN3.out w5 K5).mono ?_
  rintro r w6 ⟨rfl,hb6⟩
  have K6:Below w.heap.size w w6:=K5.trans (hb6.mono K5.size)
  go_wp2_with fail
  refine(CD3.out w6 K6).mono ?_
  rintro r w7 ⟨rfl,hb7⟩
  have K7:Below w.heap.size w w7:=K6.trans (hb7.mono K6.size)
  rcases hd with⟨h0,d0⟩|⟨h0,d0,d1⟩
  all_goals
   go_wp2_with fail
   refine(CD2.out w7 K7).mono ?_
   rintro r w8 ⟨rfl,hb8⟩
   go_wp2
   go_ret
   exact⟨rfl,K7.trans (hb8.mono K7.size)⟩
 obtain⟨e,rfl⟩: ∃e:Nat,size=e:=⟨size.toNat,om⟩
 have q1:1≤e:=om
 have q2:e≤64:=om
 have d0:decide ((e:Int)<1)=false:=decide_eq_false om
 have d1:decide ((64:Int)<(e:Int))=false:=decide_eq_false om
 clear e2 e3 hs
 go_wp2_with fail
 refine(Dz pz e w4 q1 q2).mono ?_
 rintro r w5 ⟨rfl,hw5⟩
 have C0:=CS.new HZ.out om z4 e
 rw[←hw5] at C0
 have b5:Below w4.heap.size w4 w5:=by rw[hw5];exact gI
 have z5:=b5.size
 have HC0:=ah C0
 have K5:Below w.heap.size w w5:=K4.trans (b5.mono K4.size)
 have BEL5:=ah (hb4.trans (b5.mono z4))
 have hpc5:w4.heap.size<w5.heap.size:=by rw[hw5];simp
 obtain⟨pc,hpc⟩: ∃pc,pc=w4.heap.size:=⟨_,rfl⟩
 rw[←hpc] at HC0 hpc5 ⊢
 clear C0 hw5 hpc
 go_wp2_with fail
 refine(SN3.out w5 K5).mono ?_
 rintro r w6 ⟨rfl,hb6⟩
 have K6:Below w.heap.size w w6:=K5.trans (hb6.mono K5.size)
 go_wp2_with fail
 refine(CD3.out w6 K6).mono ?_
 rintro r w7 ⟨rfl,hb7⟩
 have K7:Below w.heap.size w w7:=K6.trans (hb7.mono K6.size)
 have B57:Below w5.heap.size w5 w7:=hb6.trans (hb7.mono hb6.size)
 have z57:=B57.size
 have HM7:=ah (((HM4.out.go b5).go hb6).go hb7)
 have a0:=HM7.out.c 0 _ rfl;have a1:=HM7.out.c 1 _ rfl;have a2:=HM7.out.c 2 _ rfl;have a3:=HM7.out.c 3 _ rfl;have a4:=HM7.out.c 4 _ rfl;have al:=HM7.out.lt
 have hI: ∀x∈L,Inv x.n x.F x.T:=fun x hx=>(HZ.out.b.bud x hx).2
 have NZ:=ah (yK (pc::ys L) (.slice p P.length cap) (.slice q N.length k) P N mn lw hi O L w7 (fun y hy=>by
  rcases aC.1 hy with rfl|t
  ·omega
  ·have:=(HZ.out.b.lim y t).2;omega) (CF.out w7 K7) HCE.out hfit HLN.out HLF.out hI HZ.out.ord HO.out)
 have INV0:Hid (jD e ⟨L,[]⟩):=⟨q1,q2,hI,by show L.length≤4;omega,List.Pairwise.nil,fun s hs=>(by cases hs),fun s hs=>(by cases hs)⟩
 clear hI SN3 CD3
 go_wp2_with fail
 refine NZ.out.mono ?_
 rintro r w12 ⟨X,M,pm,gN,rfl,hrz,hX1,hX2,⟨hX3,hX4,hX5⟩,hb12⟩
 have K12:Below w.heap.size w w12:=K7.trans (hb12.mono K7.size)
 have z12:=hb12.size
 have CZ0:=CZX.start (e:=e) (w13:=w12.alloc (.cells #[.pointer (some ⟨pm,0,none⟩),.int .i64 e,.slice none 0 0] 47)) HC0.out B57 hrz hX1 hX2 hX3 hX4 hX5 hb12 BEL5.out rfl
 have HCZ0:=ah CZ0
 have EZ:Hid (yI w3.heap.size ev w3):=((EE.out w3 K3).s).up (by have:=K3.size;omega) (aH _)
 have EE3:Hid (∀W,Below w3.heap.size w3 W→oW B ev W):=fun W hW=>EE.out W (K3.trans (hW.mono K3.size))
 have HKW:Hid (∀W,Below w3.heap.size w3 W→Below w.heap.size w W):=fun W hW=>K3.trans (hW.mono K3.size)
 have HLP:Hid (L.length=P.length):=hLP
 have HP4:Hid (1≤P.length∧P.length≤4):=hP4
 have HB3:Hid (B≤w3.heap.size):=by have:=K3.size;show B≤_;omega
 obtain⟨pcm,hpcm⟩: ∃pcm,pcm=w12.heap.size:=⟨_,rfl⟩
 rw[←hpcm] at HCZ0
 clear CZ0 NZ hrz hX1 hX2 hX3 hX4 hX5 a0 a1 a2 a3 a4 al HZ HLN HLF HO hLP hP4
 go_wp2_with fail
 rw[←hpcm]
 clear hpcm
 go_loopw [14] (fun iv wr=>∃(i:Nat) (X:List Nat) (c:Ca),i≤n∧iv= .int .i64 i∧Hid (c.L.length=P.length)∧Hid (jD e c)∧Hid (CZX w3 X [] pc pz pcm pm gN e mn lw hi O c c wr)) (fun iv _=>n-(intOf iv).toNat)
 case atStart=>exact⟨0,_,_,aQ _,by go_num,HLP,INV0,HCZ0⟩
 case round=>
  obtain⟨i,X,c,hin,rfl,HLL,HIN,HS⟩:=hrel
  clear HCZ0 INV0
  have b3r:=HS.out.bel
  have KR:=HKW.out _ b3r
  have Bz:0<c.L.length:=by have:=HLL.out;have:=HP4.out;omega
  have HBR:=ah b3r
  by_cases hlt:i<n
  ·obtain⟨x,hx⟩: ∃x,xs[i]?=some x:=⟨xs[i]'(by rw[←HN.out];exact hlt),au _⟩
   obtain⟨g,off,cap',e',_,hg,hrow⟩:=(show yL w (.slice pl n kl) xs from HX.out).form (by rw[←HN.out];omega)
   rw[←HN.out] at e'
   injection e' with e1 e2 e3
   subst e1 e3
   obtain⟨hfx,hcell⟩:=hrow i x hx
   have hgr:g<wr.heap.size:=by have:=KR.size;omega
   have r0:=(KR.cell (p:=⟨g,off+i*6+0,none⟩) hg).trans (hcell 0 _ rfl)
   have r1:=(KR.cell (p:=⟨g,off+i*6+1,none⟩) hg).trans (hcell 1 _ rfl)
   have r2:=(KR.cell (p:=⟨g,off+i*6+2,none⟩) hg).trans (hcell 2 _ rfl)
   have r3:=(KR.cell (p:=⟨g,off+i*6+3,none⟩) hg).trans (hcell 3 _ rfl)
   have r4:=(KR.cell (p:=⟨g,off+i*6+4,none⟩) hg).trans (hcell 4 _ rfl)
   have r5:=(KR.cell (p:=⟨g,off+i*6+5,none⟩) hg).trans (hcell 5 _ rfl)
   clear hx hrow hcell
   obtain⟨kd,nd,num,ud,on,oa⟩:=x
   simp only[vK.fits] at r0 r1 r2 r3 r4 r5 hfx
   simp only[Nat.add_zero] at r0
   have HFO:Hid (-9223372036854775808≤oa∧oa≤9223372036854775807):=hfx.2.2.2.2
   have i0:(0:Int)≤(i:Int):=om
   have i1:(i:Int)<(n:Int):=om
   have LA:=ah (gH.mk_ wr [.string kd,.int .i64 nd,.int .i64 num,.bool ud,.int .i64 on,.int .i64 oa] 51 rfl)
   have SA:=ah (HS.out.go (w':=wr.alloc (.cells [.string kd,.int .i64 nd,.int .i64 num,.bool ud,.int .i64 on,.int .i64 oa].toArray 51)) gI)
   have NX:Hid (wr.heap.size∉X):=fun q=>by have:=(HS.out.lim _ q).2;omega
   clear hfx e2 b3r
   go_wp2_with fail
   all_goals
    obtain⟨bx,hbx⟩: ∃bx,bx=wr.heap.size:=⟨_,rfl⟩
    obtain⟨wa,hwa⟩: ∃wa,wa=wr.alloc (.cells #[.string kd,.int .i64 nd,.int .i64 num,.bool ud,.int .i64 on,.int .i64 oa] 51):=⟨_,rfl⟩
    have LB:Hid (gH wa bx [.string kd,.int .i64 nd,.int .i64 num,.bool ud,.int .i64 on,.int .i64 oa]):=by rw[hwa,hbx];exact LA.out
    have SB:Hid (CZX w3 X [] pc pz pcm pm gN e mn lw hi O c c wa):=by rw[hwa];exact SA.out
    have NB:Hid (bx∉X):=by rw[hbx];exact NX.out
    have bxl:bx<wa.heap.size:=LB.out.lt
    rw[←hwa]
    try rw[←hbx]
    clear LA SA NX r0 r1 r2 r3 r4 r5 hbx hwa KR hgr HS HBR
   ·
    have ord:vM O c.L.length:=by obtain⟨M,vs,v,As,A,t,_⟩:=SB.out;exact t.cs.z.ord
    have TP:=cz_take nd ud EZ.out.z HIN.out SB.out
    have TR:=ah (fun c1 X1 W (h:CZX w3 X1 [] pc pz pcm pm gN e mn lw hi O c1 c W)=>cz_rtake nd ud HIN.out h)
    have hinv:=oC (mn:=mn) (v:=nd) (u:=ud) ord HIN.out
    have hlen:=(nC mn O e c nd ud).1
    have hcd:=Br (mn:=mn) (O:=O) (e:=e) (c:=c) nd ud
    obtain⟨⟨c2,qq,j1,j2⟩,hr⟩: ∃r,r=takeC mn O e c nd ud:=⟨_,rfl⟩
    rw[←hr] at TP TR hinv hlen hcd
    simp only[obV] at TP TR hinv hlen hcd
    have CD:=ah (fun W (hW:Below w3.heap.size w3 W)=>kP qq qq W (EE3.out W hW) hcd rfl)
    have HL2:Hid (c2.L.length=P.length):=by show _=_;rw[←hlen];exact HLL.out
    have HI2:=ah hinv
    obtain⟨E,hE'⟩: ∃E,E=iP ev qq:=⟨_,rfl⟩
    rw[←hE'] at TP CD
    have HTP:=ah TP
    have nb:=neqO2;have gb:=zX
    clear hr hlen hcd hE' Bz TP hinv ord
    refine HTP.out.mono ?_
    rintro r wb ⟨rfl,X1,st1,k1,x1⟩
    have LB2:=LB.out.keep k1 (fun t=>NB.out (jw.1 t).1)
    have LP:=ah (gH.mk_ wb [.int .i64 j1,.int .i64 j2] 49 rfl)
    have STB:=ah (st1.go (w':=wb.alloc (.cells [.int .i64 j1,.int .i64 j2].toArray 49)) gI)
    have NP:Hid (wb.heap.size∉X1):=fun t=>by have:=(st1.lim _ t).2;omega
    have y1:=LB2.c 1 _ rfl;have y3:=LB2.c 3 _ rfl;have yl:=LB2.lt
    clear HTP st1 k1 x1 LB2
    go_wp2_with fail
    refine(TR.out _ _ _ STB.out).mono ?_
    rintro r wc ⟨rfl,X2,st2,k2,x2⟩
    have LP2:=LP.out.keep k2 (fun t=>NP.out (jw.1 t).1)
    have STC:=ah (st2.go (w':=wc.alloc (.cells [.int .i64 j1,.int .i64 j2].toArray 49)) gI)
    have LQ:=ah (gH.mk_ wc [.int .i64 j1,.int .i64 j2] 49 rfl)
    have HLP2:=ah (LP2.past (.cells [.int .i64 j1,.int .i64 j2].toArray 49))
    clear TR STB LP st2 k2 x2 LP2 y1 y3 yl NP
    go_wp2_with fail
    refine(CD.out _ STC.out.bel).mono ?_
    rintro r wd ⟨rfl,hbd⟩
    have STD:=ah (STC.out.go hbd)
    have p0:=(HLP2.out.go hbd).c 0 _ rfl;have p1:=(HLP2.out.go hbd).c 1 _ rfl;have ppl:=(HLP2.out.go hbd).lt
    have u0:=(LQ.out.go hbd).c 0 _ rfl;have u1:=(LQ.out.go hbd).c 1 _ rfl;have uql:=(LQ.out.go hbd).lt
    clear CD STC hbd HLP2 LQ
    go_wp2
    go_roundw
    case rel=>exact⟨i+1,X2,c2,om,by go_num,HL2,HI2,STD⟩
    case measure=>simp[intOf];omega
   ·
    have GP:=ah (fun W (h:CZX w3 X [] pc pz pcm pm gN e mn lw hi O c c W)=>cz_give (on,oa) EZ.out HIN.out HFO.out.1 HFO.out.2 h)
    have GR:=ah (fun c1 X1 W (h:CZX w3 X1 [] pc pz pcm pm gN e mn lw hi O c1 c W)=>cz_rgive (on,oa) HIN.out h)
    have hinv:=Di (o:=(on,oa)) HIN.out
    have hlen:(jB e c (on,oa)).1.L.length=P.length:=by rw[pK];exact HLL.out
    have hcd:=Bt (e:=e) (c:=c) (on,oa)
    obtain⟨⟨c2,qq⟩,hr⟩: ∃r,r=jB e c (on,oa):=⟨_,rfl⟩
    rw[←hr] at GP GR hinv hlen hcd
    simp only at GP GR hinv hlen hcd
    have CD:=ah (fun W (hW:Below w3.heap.size w3 W)=>kP qq qq W (EE3.out W hW) hcd rfl)
    have HL2:Hid (c2.L.length=P.length):=hlen
    have HI2:=ah hinv
    obtain⟨E,hE'⟩: ∃E,E=iP ev qq:=⟨_,rfl⟩
    rw[←hE'] at GP CD
    have y4:=LB.out.c 4 _ rfl;have y5:=LB.out.c 5 _ rfl
    clear hr hlen hcd hE' Bz hinv
    go_region_held3 (fun w'=>w'.cell? ⟨bx,4,none⟩=some (.int .i64 on)∧w'.cell? ⟨bx,5,none⟩=some (.int .i64 oa)) (go_keep) (first
     |(go_at_call 25;refine(GP.out _ (SB.out.go gI)).mono ?_;rintro r wb ⟨rfl,X1,st1,k1,x1⟩;have LB2:=(LB.out.jy).keep k1 (fun t=>NB.out (jw.1 t).1);have nx1:bx∉X1:=(fun t=>by rcases x1 _ t with r|r;(·exact NB.out r);(·simp at r;omega));have x4:=LB2.c 4 _ rfl;have x5:=LB2.c 5 _ rfl)
     |(go_at_call 26;refine(GR.out _ _ _ st1).mono ?_;rintro r wc ⟨rfl,X2,st2,k2,x2⟩;have LB3:=LB2.keep k2 (fun t=>nx1 (jw.1 t).1);have z4:=LB3.c 4 _ rfl;have z5:=LB3.c 5 _ rfl)
     |(go_at_call 21;refine(CD.out _ st2.bel).mono ?_;rintro r wd ⟨rfl,hbd⟩;have std:=st2.go hbd;have LB4:=LB3.go hbd;have t4:=LB4.c 4 _ rfl;have t5:=LB4.c 5 _ rfl))
    have STD:=ah std
    clear std st2 st1 k1 k2 LB2 LB3 LB4 x4 x5 y4 y5 z4 z5 t4 t5 GP GR CD hbd nx1 x1 x2
    go_wp2
    go_roundw
    case rel=>exact⟨i+1,X2,c2,om,by go_num,HL2,HI2,STD⟩
    case measure=>simp[intOf];omega
   ·
    have ord:vM O c.L.length:=by obtain⟨M,vs,v,As,A,t,_⟩:=SB.out;exact t.cs.z.ord
    have TP:=cz_page nd EZ.out.z SB.out
    have TR:=ah (fun F c1 X1 W (h:CZX w3 X1 F pc pz pcm pm gN e mn lw hi O c1 c W)=>cz_rpage nd h)
    have hinv:=page_inv (mn:=mn) (j:=nd) (u:=true) ord HIN.out
    have hlen:=(je mn O c.L nd 0 true).1
    have hcd:=Aa mn O c.L nd 0 true
    obtain⟨⟨L2,qq,jn,ja,jk⟩,hr⟩: ∃r,r=gY mn O c.L nd 0 true:=⟨_,rfl⟩
    rw[←hr] at TP TR hinv hlen hcd
    simp only[plV] at TP TR hinv hlen hcd
    have CD:=ah (fun W (hW:Below w3.heap.size w3 W)=>kP qq qq W (EE3.out W hW) hcd rfl)
    have HL2:Hid ((⟨L2,c.C⟩:Ca).L.length=P.length):=by show L2.length=_;rw[←hlen];exact HLL.out
    have HI2:=ah hinv
    obtain⟨E,hE'⟩: ∃E,E=iP ev qq:=⟨_,rfl⟩
    rw[←hE'] at TP CD
    have HTP:=ah TP
    have nb:=neqP;have gb:=guardP
    have PC:Hid (∀F c1 X1 d W,CZX w3 X1 F pc pz pcm pm gN e mn lw hi O c1 d W→W.cell? ⟨pcm,0,none⟩=some (.pointer (some ⟨pm,0,none⟩))∧pcm<W.heap.size):=fun F c1 X1 d W h=>by
     obtain⟨M,vs,v,As,A,t,_⟩:=h
     exact⟨t.rc.b.c.c 0 _ rfl,t.rc.b.c.lt⟩
    clear hr hlen hcd hE' Bz TP hinv ord
    refine HTP.out.mono ?_
    rintro r wb ⟨rfl,X1,st1,k1,x1⟩
    have LB2:=LB.out.keep k1 (fun t=>NB.out (jw.1 t).1)
    have NP:Hid (wb.heap.size∉X1):=fun t=>by have:=(st1.lim _ t).2;omega
    have NB1:Hid (bx∉X1):=fun t=>by rcases x1 _ t with r|r;(·exact NB.out r);(·omega)
    have HB2:=ah LB2;have HS1:=ah st1
    clear HTP st1 k1 x1 LB2
    go_wp2_with fail
    obtain⟨wb2,hwb2⟩: ∃wb2,wb2=wb.alloc (.cells #[.int .i64 jn,.int .i64 ja,.int .i64 jk] 61):=⟨_,rfl⟩
    rw[←hwb2]
    have bb2:Below wb.heap.size wb wb2:=by rw[hwb2];exact gI
    have LP:=ah (show gH wb2 wb.heap.size [.int .i64 jn,.int .i64 ja,.int .i64 jk] from by rw[hwb2];exact gH.mk_ wb [.int .i64 jn,.int .i64 ja,.int .i64 jk] 61 rfl)
    have STB:=ah (HS1.out.go bb2)
    have LBB:=ah (HB2.out.go bb2)
    obtain⟨bp,hbp⟩: ∃bp,bp=wb.heap.size:=⟨_,rfl⟩
    rw[←hbp] at LP NP ⊢
    clear hwb2 bb2 hbp HB2 HS1
    have y1:=LBB.out.c 1 _ rfl;have pc0:=(PC.out _ _ _ _ _ STB.out).1;have pcl:=(PC.out _ _ _ _ _ STB.out).2
    have bl:=LBB.out.lt;have pl0:=LP.out.lt
    refine tq (S:=(fun w'=>w'.cell? ⟨bx,1,none⟩=some (.int .i64 nd)∧w'.cell? ⟨pcm,0,none⟩=some (.pointer (some ⟨pm,0,none⟩)))) 12 #[false,false,false,false,false,false,false,false,false,false,false,false] rfl kR kR (by(try dsimp only);go_keep) (fun hHeld=> ?_)
    simp only[aO,aX]
    refine ctk (i:=0) (v:= ?_) rfl (fun _ _ _ h=>h) (Or.inl ⟨rf,?_⟩) ?_
    rotate_left
    ·(intro w hSw;(try dsimp only at hSw);go_simp<;>with_reducible rfl)
    try simp only[Act.put,pA,pZ,pS]
    refine ctk (i:=1) (v:= ?_) rfl (fun _ _ _ h=>h) (Or.inl ⟨rf,?_⟩) ?_
    rotate_left
    ·(intro w hSw;(try dsimp only at hSw);go_simp<;>with_reducible rfl)
    try simp only[Act.put,pA,pZ,pS]
    refine ctk (i:=2) (v:= ?_) rfl (fun _ _ _ h=>h) (Or.inl ⟨rf,?_⟩) ?_
    rotate_left
    ·(intro w hSw;(try dsimp only at hSw);go_simp<;>with_reducible rfl)
    try simp only[Act.put,pA,pZ,pS]
    refine ctk (i:=3) (v:= ?_) rfl (fun _ _ _ h=>h) (Or.inl ⟨rf,?_⟩) ?_
    rotate_left
    ·(intro w hSw;(try dsimp only at hSw);go_simp<;>with_reducible rfl)
    try simp only[Act.put,pA,pZ,pS]
    refine ctk (i:=4) (v:= ?_) rfl (fun _ _ _ h=>h) (Or.inl ⟨rf,?_⟩) ?_
    rotate_left
    ·(intro w hSw;(try dsimp only at hSw);go_simp<;>with_reducible rfl)
    try simp only[Act.put,pA,pZ,pS]
    refine ctk (i:=5) (v:= ?_) rfl (fun _ _ _ h=>h) (Or.inl ⟨rf,?_⟩) ?_
    rotate_left
    ·(intro w hSw;(try dsimp only at hSw);go_simp<;>with_reducible rfl)
    try simp only[Act.put,pA,pZ,pS]
    refine wpAnyH_ready (rs:=[6,10]) kR sI ?_
    refine bE (iq rfl) (fun K hK=> ?_) (bE (iq rfl) (fun K hK=> ?_) bH)
    ·refine uJ rf 28 #[.pointer (some ⟨pm,0,none⟩),.int .i64 nd,.int .i64 0,.bool true] kR (TR.out _ _ _ _ (STB.out.go (show Below wb2.heap.size wb2 wb2.drew from gI))) ?_
     rintro r wc ⟨rfl,X2,st2,k2,x2⟩
     refine⟨_,rfl,?_⟩
     have LB3:=(LBB.out.jy).keep k2 (fun t=>NB1.out (jw.1 t).1)
     have LP3:=(LP.out.jy).keep k2 (fun t=>NP.out (jw.1 t).1)
     have z1:=LB3.c 1 _ rfl;have zp:=(PC.out _ _ _ _ _ st2).1
     refine hK.out _ _ (by(try dsimp only);go_keep) (fun hHeld=> ?_)
     clear hK K
     try simp only[Act.put,pA,pZ,pS]
     refine ctk (i:=7) (v:= ?_) rfl (fun _ _ _ h=>h) (Or.inl ⟨rf,?_⟩) ?_
     rotate_left
     ·(intro w hSw;(try dsimp only at hSw);go_simp<;>with_reducible rfl)
     try simp only[Act.put,pA,pZ,pS]
     refine ctk (i:=8) (v:= ?_) rfl (fun _ _ _ h=>h) (Or.inl ⟨rf,?_⟩) ?_
     rotate_left
     ·(intro w hSw;(try dsimp only at hSw);go_simp<;>with_reducible rfl)
     try simp only[Act.put,pA,pZ,pS]
     refine ctk (i:=9) (v:= ?_) rfl (fun _ _ _ h=>h) (Or.inl ⟨rf,?_⟩) ?_
     rotate_left
     ·(intro w hSw;(try dsimp only at hSw);go_simp<;>with_reducible rfl)
     try simp only[Act.put,pA,pZ,pS]
     refine wpAnyH_ready (rs:=[10]) kR sI ?_
     refine bE (iq rfl) (fun K hK=> ?_) bH
     go_simp
     refine hK.out _ _ (by(try dsimp only);go_keep) (fun hHeld=> ?_)
     clear hK K
     try simp only[Act.put,pA,pZ,pS]
     refine wpAnyH_ready (rs:=[11]) kR sI ?_
     refine bE (iq rfl) (fun K hK=> ?_) bH
     go_simp
     refine hK.out _ _ (by(try dsimp only);go_keep) (fun hHeld=> ?_)
     clear hK K
     try simp only[Act.put,pA,pZ,pS]
     refine wpAnyH_done kR ?_ _
     simp only[lU,aP,aV]
     have STC:=ah (st2.go (w':=wc.alloc (.cells [.int .i64 jn,.int .i64 ja,.int .i64 jk].toArray 61)) gI)
     have LQ:=ah (gH.mk_ wc [.int .i64 jn,.int .i64 ja,.int .i64 jk] 61 rfl)
     have HLP:=ah (LP3.past (.cells [.int .i64 jn,.int .i64 ja,.int .i64 jk].toArray 61))
     clear TR STB LBB LP st2 k2 x2 LB3 LP3 z1 zp NP NB1 pc0 pcl y1 bl pl0 hHeld PC
     go_wp2_with fail
     refine(CD.out _ STC.out.bel).mono ?_
     rintro r wd ⟨rfl,hbd⟩
     have STD:=ah (STC.out.go hbd)
     have p0:=(HLP.out.go hbd).c 0 _ rfl;have p1:=(HLP.out.go hbd).c 1 _ rfl;have p2:=(HLP.out.go hbd).c 2 _ rfl;have ppl:=(HLP.out.go hbd).lt
     have u0:=(LQ.out.go hbd).c 0 _ rfl;have u1:=(LQ.out.go hbd).c 1 _ rfl;have u2:=(LQ.out.go hbd).c 2 _ rfl;have uql:=(LQ.out.go hbd).lt
     clear CD STC hbd HLP LQ
     go_wp2
     go_roundw
     case rel=>exact⟨i+1,X2,_,om,by go_num,HL2,HI2,STD⟩
     case measure=>simp[intOf];omega
    ·go_simp
     refine hK.out _ _ (by(try dsimp only);go_keep) (fun hHeld=> ?_)
     clear hK K
     try simp only[Act.put,pA,pZ,pS]
     obtain⟨wz,hwz⟩: ∃wz,wz=(wb2.alloc (.cells #[.int .i64 0,.int .i64 0,.int .i64 0] 61)).drew:=⟨_,rfl⟩
     have LZ:=ah (show gH wz wb2.heap.size [.int .i64 0,.int .i64 0,.int .i64 0] from by rw[hwz];exact(gH.mk_ wb2 [.int .i64 0,.int .i64 0,.int .i64 0] 61 rfl).jy)
     have bz:Below wb2.heap.size wb2 wz:=by rw[hwz];exact gI
     have NZ1:Hid (wb2.heap.size∉X1):=fun t=>by have:=(STB.out.lim _ t).2;omega
     have ADD:=STB.out.add (G:=[wb2.heap.size]) bz (fun g hg=>by simp at hg;subst hg;exact⟨aH _,LZ.out.lt⟩)
     obtain⟨bz2,hbz2⟩: ∃x,x=wb2.heap.size:=⟨_,rfl⟩
     have blz:bx<bz2:=om
     have pclz:pcm<bz2:=om
     have plz:bp<bz2:=om
     rw[←hbz2] at LZ NZ1 ADD ⊢
     rw[←hwz]
     clear hbz2 hwz
     refine wpAnyH_ready (rs:=[6]) kR sI ?_
     refine bE (iq rfl) (fun K hK=> ?_) bH
     refine uJ rf 28 #[.pointer (some ⟨pm,0,none⟩),.int .i64 nd,.int .i64 0,.bool true] kR (TR.out _ _ _ _ ADD) ?_
     rintro r wc ⟨rfl,X2,st2,k2,x2⟩
     refine⟨_,rfl,?_⟩
     have nb1:bx∉Go.Proofs.YtdcbhlcbiokbeaaGreatDoor.off ([bz2]++X1) ([bz2]++[]):=fun t=>by
      rcases aF.1 (jw.1 t).1 with r|r
      ·simp at r;omega
      ·exact NB1.out r
     have nb2:bp∉Go.Proofs.YtdcbhlcbiokbeaaGreatDoor.off ([bz2]++X1) ([bz2]++[]):=fun t=>by
      rcases aF.1 (jw.1 t).1 with r|r
      ·simp at r;omega
      ·exact NP.out r
     have nb3:bz2∉Go.Proofs.YtdcbhlcbiokbeaaGreatDoor.off ([bz2]++X1) ([bz2]++[]):=fun t=>(jw.1 t).2 sI
     have LB3:=(LBB.out.go bz).keep k2 nb1
     have LP3:=(LP.out.go bz).keep k2 nb2
     have LZ3:=LZ.out.keep k2 nb3
     have z1:=LB3.c 1 _ rfl;have zp:=(PC.out _ _ _ _ _ st2).1
     have g0:=LZ3.c 0 _ rfl;have g1:=LZ3.c 1 _ rfl;have g2:=LZ3.c 2 _ rfl;have gf0:=LZ3.f 0 sI;have gf1:=LZ3.f 1 sI;have gf2:=LZ3.f 2 sI;have gl:=LZ3.lt
     have ne1: ¬(bz2=bx):=om
     have ne2: ¬(bz2=pcm):=om
     have ne3: ¬(bx=bz2):=om
     have ne4: ¬(pcm=bz2):=om
     have ne5:bz2≠bp:=om
     refine hK.out _ _ (by(try dsimp only);go_keep) (fun hHeld=> ?_)
     clear hK K
     try simp only[Act.put,pA,pZ,pS]
     refine ctk (i:=7) (v:= ?_) rfl (fun _ _ _ h=>h) (Or.inl ⟨rf,?_⟩) ?_
     rotate_left
     ·(intro w hSw;(try dsimp only at hSw);go_simp<;>with_reducible rfl)
     try simp only[Act.put,pA,pZ,pS]
     refine ctk (i:=8) (v:= ?_) rfl (fun _ _ _ h=>h) (Or.inl ⟨rf,?_⟩) ?_
     rotate_left
     ·(intro w hSw;(try dsimp only at hSw);go_simp<;>with_reducible rfl)
     try simp only[Act.put,pA,pZ,pS]
     refine ctk (i:=9) (v:= ?_) rfl (fun _ _ _ h=>h) (Or.inl ⟨rf,?_⟩) ?_
     rotate_left
     ·(intro w hSw;(try dsimp only at hSw);go_simp<;>with_reducible rfl)
     try simp only[Act.put,pA,pZ,pS]
     refine wpAnyH_ready (rs:=[11]) kR sI ?_
     refine bE (iq rfl) (fun K hK=> ?_) bH
     go_simp
     obtain⟨wy,hwy⟩: ∃wy,wy=((wc.setCell ⟨bz2,0,none⟩ (.int .i64 jn)).setCell ⟨bz2,1,none⟩ (.int .i64 ja)).setCell ⟨bz2,2,none⟩ (.int .i64 jk):=⟨_,rfl⟩
     have LY:=ah (show gH wy bz2 [.int .i64 jn,.int .i64 ja,.int .i64 jk] from by rw[hwy];exact LZ3.mJ _ _ _)
     have kyy:Keep [bz2] wc wy:=by rw[hwy];exact(((Keep.refl _ _).setCell (p:=⟨bz2,0,none⟩) (.inl sI) _).setCell (p:=⟨bz2,1,none⟩) (.inl sI) _).setCell (p:=⟨bz2,2,none⟩) (.inl sI) _
     have STY:=ah ((st2.other kyy (fun s hs=>by simp at hs;subst hs;simp)).subF (G:=[]) (fun g hg=>by cases hg))
     have LPY:=ah (LP3.keep kyy (by simpa using fun t=>ne5 t.symm))
     have LBY:=LB3.keep kyy (by simpa using fun t=>ne1 t.symm)
     have h1:=LBY.c 1 _ rfl;have hp:=(PC.out _ _ _ _ _ STY.out).1
     rw[←hwy]
     refine hK.out _ _ (by(try dsimp only);go_keep) (fun hHeld=> ?_)
     clear hK K
     try simp only[Act.put,pA,pZ,pS]
     refine wpAnyH_done kR ?_ _
     simp only[lU,aP,aV]
     clear TR STB LBB LP st2 k2 x2 LB3 LP3 LZ3 z1 zp NP NB1 pc0 pcl y1 bl pl0 PC g0 g1 g2 gf0 gf1 gf2 gl hwy kyy LBY h1 hp LZ ADD bz NZ1
     go_wp2_with fail
     refine(CD.out _ STY.out.bel).mono ?_
     rintro r wd ⟨rfl,hbd⟩
     have STD:=ah (STY.out.go hbd)
     have p0:=(LPY.out.go hbd).c 0 _ rfl;have p1:=(LPY.out.go hbd).c 1 _ rfl;have p2:=(LPY.out.go hbd).c 2 _ rfl;have ppl:=(LPY.out.go hbd).lt
     have u0:=(LY.out.go hbd).c 0 _ rfl;have u1:=(LY.out.go hbd).c 1 _ rfl;have u2:=(LY.out.go hbd).c 2 _ rfl;have uql:=(LY.out.go hbd).lt
     clear CD STY hbd LPY LY
     go_wp2
     go_roundw
     case rel=>exact⟨i+1,X2,_,om,by go_num,HL2,HI2,STD⟩
     case measure=>simp[intOf];omega
   ·
    have ISN:Hid (∀F c1 X1 W,CZX w3 X1 F pc pz pcm pm gN e mn lw hi O c1 c W→Calls Tryz.prog 30 #[.pointer (some ⟨pm,0,none⟩),.int .i64 nd] W fun e w'=>e= .returned (.bool (decide (0≤nd∧nd<c.L.length)))∧Below W.heap.size W w'):=fun F c1 X1 W h=>by
     obtain⟨M,vs,v,As,A,t,_⟩:=h
     exact jg pm gN mn lw hi O M c.L nd W t.rc.z
    have PC:Hid (∀F c1 X1 d W,CZX w3 X1 F pc pz pcm pm gN e mn lw hi O c1 d W→W.cell? ⟨pcm,0,none⟩=some (.pointer (some ⟨pm,0,none⟩))∧pcm<W.heap.size):=fun F c1 X1 d W h=>by
     obtain⟨M,vs,v,As,A,t,_⟩:=h
     exact⟨t.rc.b.c.c 0 _ rfl,t.rc.b.c.lt⟩
    by_cases hbad:nd<0∨(c.L.length:Int)≤nd∨num<0
    ·have SH:=xB nd num EZ.out.z hbad SB.out
     have CD:=ah (fun W (hW:Below w3.heap.size w3 W)=>kP 2 2 W (EE3.out W hW) om rfl)
     obtain⟨E,hE'⟩: ∃E,E=iP ev 2:=⟨_,rfl⟩
     rw[←hE'] at SH CD
     have HSH:=ah SH
     clear SH hE' Bz
     refine HSH.out.mono ?_
     rintro r wb ⟨rfl,X1,st1,k1,x1⟩
     have LB2:=LB.out.keep k1 (fun t=>NB.out (jw.1 t).1)
     have HS1:=ah st1;have HB2:=ah LB2
     have y1:=LB2.c 1 _ rfl;have y2:=LB2.c 2 _ rfl;have yl:=LB2.lt;have pc0:=(PC.out _ _ _ _ _ st1).1;have pcl:=(PC.out _ _ _ _ _ st1).2
     clear HSH st1 k1 x1 LB2
     by_cases hv:0≤nd∧nd<c.L.length
     ·have NO:=fun(p:Behind wb)=>ISN.out _ _ _ p.w' (HS1.out.go p.h)
      rw[decide_eq_true hv] at NO
      have HNO:=ah NO
      have dn:decide (num<0)=true:=decide_eq_true om
      clear NO hv hbad
      go_wp2_with fail
      refine gB kR kR ?_
      repeat(go_big_quiet_step (((go_at_call 30;exact Calls.behind (HNO.out _)))))
      refine wpQuiet_nil ?_
      intro w5 hw'
      have hb5:=gW hw'
      clear hw'
      have z5:=hb5.size;try simp at z5
      have ST5:=ah (HS1.out.go hb5)
      have q2:=(HB2.out.go hb5).c 2 _ rfl;have ql:=(HB2.out.go hb5).lt
      clear HNO hb5 y1 y2 yl pc0 pcl
      go_wp2_with fail
      refine(CD.out _ ST5.out.bel).mono ?_
      rintro r wd ⟨rfl,hbd⟩
      have STD:=ah (ST5.out.go hbd)
      clear CD ST5 hbd q2 ql
      go_wp2
      go_roundw
      case rel=>exact⟨i+1,X1,c,om,by go_num,HLL,HIN,STD⟩
      case measure=>simp[intOf];omega
     ·have NO:=fun(p:Behind wb)=>ISN.out _ _ _ p.w' (HS1.out.go p.h)
      rw[decide_eq_false hv] at NO
      have HNO:=ah NO
      clear NO hv hbad
      go_wp2_with fail
      refine gB kR kR ?_
      repeat(go_big_quiet_step (((go_at_call 30;exact Calls.behind (HNO.out _)))))
      refine wpQuiet_nil ?_
      intro w5 hw'
      have hb5:=gW hw'
      clear hw'
      have z5:=hb5.size;try simp at z5
      have ST5:=ah (HS1.out.go hb5)
      have q2:=(HB2.out.go hb5).c 2 _ rfl;have ql:=(HB2.out.go hb5).lt
      clear HNO hb5 y1 y2 yl pc0 pcl
      go_wp2_with fail
      refine(CD.out _ ST5.out.bel).mono ?_
      rintro r wd ⟨rfl,hbd⟩
      have STD:=ah (ST5.out.go hbd)
      clear CD ST5 hbd q2 ql
      go_wp2
      go_roundw
      case rel=>exact⟨i+1,X1,c,om,by go_num,HLL,HIN,STD⟩
      case measure=>simp[intOf];omega
    ·obtain⟨j,rfl⟩: ∃j:Nat,nd=j:=⟨nd.toNat,om⟩
     have SH:=En j num EZ.out.z HIN.out om om SB.out
     have RH:=ah (fun c1 X1 W (h:CZX w3 X1 [] pc pz pcm pm gN e mn lw hi O c1 c W)=>Bq j num HIN.out h)
     have hinv:=lN (v:=(j:Int)) (most:=num) (i:=c.C.length) (n:=0) HIN.out
     have hlen:=(jI (v:=(j:Int)) (most:=num) (i:=c.C.length) (c:=c) (n:=0)).1
     obtain⟨⟨c2,ns⟩,hr⟩: ∃r,r=ig (j:Int) num c.C.length (c,0):=⟨_,rfl⟩
     rw[←hr] at SH RH hinv hlen
     simp only at SH RH hinv hlen
     have HL2:Hid (c2.L.length=P.length):=by show _=_;rw[←hlen];exact HLL.out
     have HI2:=ah hinv
     have HSH:=ah SH
     have hv:0≤(j:Int)∧(j:Int)<c.L.length:=om
     have dn:decide (num<0)=false:=decide_eq_false om
     clear SH hr hinv hlen Bz
     refine HSH.out.mono ?_
     rintro r wb ⟨rfl,X1,st1,k1,x1⟩
     have LB2:=LB.out.keep k1 (fun t=>NB.out (jw.1 t).1)
     have HS1:=ah st1;have HB2:=ah LB2
     have y1:=LB2.c 1 _ rfl;have y2:=LB2.c 2 _ rfl;have yl:=LB2.lt;have pc0:=(PC.out _ _ _ _ _ st1).1;have pcl:=(PC.out _ _ _ _ _ st1).2
     have NO:=fun(p:Behind wb)=>ISN.out _ _ _ p.w' (HS1.out.go p.h)
     rw[decide_eq_true hv] at NO
     have HNO:=ah NO
     clear HSH st1 k1 x1 LB2 NO hv hbad
     go_wp2_with fail
     refine gB kR kR ?_
     repeat(go_big_quiet_step (((go_at_call 30;exact Calls.behind (HNO.out _)))))
     refine wpQuiet_nil ?_
     intro w5 hw'
     have hb5:=gW hw'
     clear hw'
     have z5:=hb5.size;try simp at z5
     have ST5:=ah (HS1.out.go hb5)
     have q1:=(HB2.out.go hb5).c 1 _ rfl;have q2:=(HB2.out.go hb5).c 2 _ rfl;have ql:=(HB2.out.go hb5).lt
     clear HNO hb5 y1 y2 yl pc0 pcl HS1
     go_wp2_with fail
     refine(RH.out _ _ _ ST5.out).mono ?_
     rintro r wd ⟨rfl,X2,st2,k2,x2⟩
     have STD:=ah st2
     clear RH ST5 st2 k2 x2 q1 q2 ql HB2
     go_wp2
     go_roundw
     case rel=>exact⟨i+1,X2,c2,om,by go_num,HL2,HI2,STD⟩
     case measure=>simp[intOf];omega
  ·
   obtain⟨M,vs,v,As,A,t,_⟩:=HS.out
   have AC:=ah (Bp t.cs t.rc HIN.out)
   have HT:=ah t
   have pc0:=t.rc.b.c.c 0 _ rfl;have pcl:=t.rc.b.c.lt
   have h4:c.L.length≤4:=by have:=HLL.out;have:=HP4.out;omega
   have HRC:=ah t.rc.b.c
   clear t b3r
   go_wp2_with fail
   refine AC.out.mono ?_
   rintro r w20 ⟨rfl,hb20⟩
   have z20:=hb20.size
   have t20:=HT.out.go hb20
   have AZ:=ah (Eu pz pm gN mn lw hi O M c.L w20 (EE3.out w20 t20.bel) HB3.out t20.bel.size t20.cs.z.toB t20.rc.z Bz h4)
   have K20:=HKW.out _ t20.bel
   have c20:=(HRC.out.go hb20).c 0 _ rfl;have l20:=(HRC.out.go hb20).lt
   clear t20 AC pc0 pcl
   go_wp2_with fail
   refine AZ.out.mono ?_
   rintro r w21 ⟨rfl,hb21⟩
   go_wp2
   go_ret
   exact⟨sI,K20.trans (hb21.mono K20.size)⟩
end
section
open Go.RowKit Go.ChangeShapes
def nmES:String:=match Rows.laid_slabyard_api_ErrBound (H:=Unit) with| .iface n _=>n|_=> ""
def sentD (text:List UInt8):DataW Unit:=.iface nmES (.ptr (.agg [.lit (.string text)]))
def sentT:DataW Unit→List UInt8| .iface _ (.ptr (.agg [.lit (.string t)]))=>t|_=>[]
theorem BA {P:Program} {W:World} {ti tp te ts:TypeId} {ms:Array (String×TypeId)} {f:Field}
 (hi:P.underlying ti=some (.interface ms)) (hrow: ∀u,P.typeName? 3 u=some nmES→u=tp)
 (hp:P.underlying tp=some (.pointer te)) (he:P.underlying te=some (.struct #[f])) (hft:f.type=ts) (hfo:f.offset=0) (hs:P.underlying ts=some .string) (hc:P.cellsOf te=1) (hcs:P.cellsOf ts=1):
 ∀(l:List (String×List UInt8)) (ps:List MemPlace),(∀x∈l,∃g,P.globalNamed x.1=some g∧(P.globals[g]?).map (·.type)=some ti)→
  DataW.LaidVars P W (l.map fun x=>(x.1,sentD x.2)) ps→ps.Nodup→
  (∀b off,MemPlace.cell b off∈ps→(∃c t,W.heap[b]?=some (.cells c t (0,0)))∧∀u v,W.cell? ⟨b,off,none⟩=some (.iface u v)→Value.okWide P W .any 0 u v)→
  ∃al:List Addr,al.length=l.length∧(∀(j:Nat) (x:String×List UInt8) (a:Addr),l[j]?=some x→al[j]?=some a→W.var? P x.1=some #[.iface tp (.pointer (some a))]∧∃c t,W.heap[a.block]?=some (.cells c t (0,0)))∧
   al.Pairwise (· ≠ ·)∧∀a∈al,MemPlace.cell a.block a.off∈ps:=by
 intro l
 induction l with
 |nil=>
  intro ps _ _ _ _
  exact⟨[],rfl,fun j x a h=>by simp at h,List.Pairwise.nil,fun a h=>by simp at h⟩
 |cons x r ih=>
  intro ps hg hv hnd hrows
  obtain⟨g0,t0,cs0,f0,p0,q0,hg0,ht0,hv0,hd0,hq,e0⟩:=hv
  obtain⟨g,hgx,htx⟩:=hg x sI
  obtain rfl:=aI (hgx.symm.trans hg0)
  obtain rfl:=aI (htx.symm.trans ht0)
  subst e0
  obtain⟨l0⟩:=cs0
  have ok0: ∀u v,l0=[.iface u v]→Value.okWide P W .any 0 u v:=fun u v e=>by
   subst e
   exact(hrows g 0 (by simp[MemPlace.row])).2 u v (by simpa using World.var?_cell hg0 hv0 0)
  obtain⟨a0,s0,rfl,hc0,hs0,hz0,rfl⟩:=errorString_of_trod hi hrow hp he hft hfo hs hc hcs hd0 ok0
  obtain⟨al,hl,hall,hpw,hmem⟩:=ih q0 (fun y hy=>hg y (by simp[hy])) hq (List.Nodup.sublist (List.sublist_append_right _ _) hnd) (fun b off hm=>hrows b off (aB _ hm))
  refine⟨a0::al,by simp[hl],?_,?_,?_⟩
  ·intro j y a hy ha
   cases j with
   |zero=>
    simp at hy ha
    subst hy;subst ha
    exact⟨hv0,(hrows a0.block a0.off (by simp[MemPlace.row])).1⟩
   |succ j=>exact hall j y a (by simpa using hy) (by simpa using ha)
  ·refine aY.2 ⟨fun b hb e=> ?_,hpw⟩
   subst e
   have h1:=hmem a0 hb
   have h2:=(bU.1 hnd).2.2 (MemPlace.cell a0.block a0.off) (by simp[MemPlace.row]) _ h1
   exact h2 rfl
  ·intro a ha
   rcases aC.1 ha with rfl|ha
   ·simp[MemPlace.row]
   ·exact aB _ (hmem a ha)
theorem one_row: ∀u,Tryz.prog.typeName? 3 u=some nmES→u=434:=fun u h=>
 typeName_ptr_named (nm:= "errors.errorString") kR kR (by decide) u (h.trans kR)
theorem cells_es:Tryz.prog.cellsOf 454=1:=kR
theorem Ew:Tryz.prog.cellsOf 9=1:=kR
noncomputable def Ey (x:String×List UInt8):Bool:=match Tryz.prog.globalNamed x.1 with|some g=>(Tryz.prog.globals[g]?).map (·.type)==some 33|none=>false
theorem BF {x:String×List UInt8} (h:Ey x=true): ∃g,Tryz.prog.globalNamed x.1=some g∧(Tryz.prog.globals[g]?).map (·.type)=some 33:=by
 unfold Ey at h
 cases e:Tryz.prog.globalNamed x.1 with
 |none=>rw[e] at h;cases h
 |some g=>rw[e] at h;exact⟨g,rfl,by simpa using h⟩
theorem sents_of (l:List (String×List UInt8)) (hl:l.all Ey=true) {W:World} (h:laidMet Tryz.prog (l.map fun x=>(x.1,sentD x.2)) W):
 ∃al:List Addr,al.length=l.length∧(∀(j:Nat) (x:String×List UInt8) (a:Addr),l[j]?=some x→al[j]?=some a→W.var? Tryz.prog x.1=some #[.iface 434 (.pointer (some a))]∧∃c t,W.heap[a.block]?=some (.cells c t (0,0)))∧
  al.Pairwise (· ≠ ·):=by
 obtain⟨ps,hv,hnd,hrows⟩:=h
 obtain⟨al,h1,h2,h3,_⟩:=BA Tryz.underlying33 one_row Tryz.underlying434 Tryz.underlying454 rfl rfl Tryz.underlying9 cells_es Ew l ps (fun x hx=>BF (dN.1 hl x hx)) hv hnd hrows
 exact⟨al,h1,h2,h3⟩
theorem lt_of_cell {W:World} {a:Addr} {v:Value} (h:W.cell? a=some v):a.block<W.heap.size:=by
 rcases dQ a.block W.heap.size with h'|h'
 ·exact h'
 ·simp[World.cell?,dK h'] at h
theorem Ez {W:World} {b:Nat} {o:Obj} (h:W.heap[b]?=some o):b<W.heap.size:=(fF.1 h).1
theorem oP {H:Type} {enc:TypeId×Value→H} {P:Program} (hl:laidOutB P=true) {W W':World} (hb:Below W.heap.size W W'):
 ∀{ts:List TypeId} {vs:List Value} {ds:List (DataW H)} {ps:List MemPlace},(∀t∈ts,P.readableRec t=true∧t<P.types.size)→
  DataW.TrodAll enc P W 0 (fun _=>true) true ts vs ds ps→(∀x∈ps,x.block<W.heap.size)→DataW.TrodAll enc P W' 0 (fun b=>decide (b<W.heap.size)) true ts vs ds ps
 |[],[],[],_,_,h,_=>h
 |t::ts,_::vs,_::ds,_,hts,⟨p,q,h,hs,e⟩,hlt=>by
  subst e
  exact⟨p,q,Below.trod hl (hts t sI).1 (hts t sI).2 h hb (fun x hx=>hlt x (av _ hx)),
   oP hl hb (fun u hu=>hts u (by simp[hu])) hs (fun x hx=>hlt x (aB _ hx)),rfl⟩
theorem qm {H:Type} {enc:TypeId×Value→H} {P:Program} {W:World} {sp:Nat→Bool} {gs:List (DataW H)} {q:List MemPlace} (h:DataW.TrodVars enc P W sp [] gs q):gs=[]∧q=[]:=by
 cases gs with
 |nil=>exact⟨rfl,h⟩
 |cons g r=>exact absurd h (by intro h;cases h)
theorem law_post {H:Type} {enc:TypeId×Value→H} {f:Func} {s:ChangeSpec} {W W':World} {args:Array Value} {ds:List (DataW H)} {before:List MemPlace} {handsOn:Bool}
 (hv:s.vars=[]) (hf:s.fn H (ds++[])={results:=[.lit (.bool true)],args:=ds}) (hr:f.resultTypes.toList=[4])
 (hts: ∀t∈f.params.toList,Tryz.prog.readableRec t=true∧t<Tryz.prog.types.size) {apart:Bool}
 (hW:DataW.Whole enc Tryz.prog f.params.toList s.vars apart W args.toList ds [] before) (hb:Below W.heap.size W W') (fresh:Bool):
 s.post enc Tryz.prog f apart fresh handsOn false W args (.bool true) W':=by
 have hW':=hW
 obtain⟨p,q,hA,hV,rfl,_,_⟩:=hW
 rw[hv] at hV
 obtain⟨_,rfl⟩:=qm hV
 have hrs:f.resultTypes.size=1:=by rw[←Array.length_toList,hr];rfl
 refine⟨ds,[],p++[],[],p,[],hW',?_,?_,?_,hb.frame _,fun h=>by cases h⟩
 ·rw[hf,hr,hrs]
  exact trodAll_mk1 (shut_bool fC true)
 ·rw[hf]
  exact oP kR hb hts hA (fun x hx=>by simpa using hW'.lt x (by simpa using hx))
 ·rw[hf,hv];rfl
end
section
open Go.RowKit Go.ChangeShapes
def lS:List (String×List UInt8):=(Rows.slabActsRow.laid.drop 1).map fun x=>(x.1,sentT x.2)
theorem EA:(Rows.slabActsRow.laid.filter fun x=>x.2.handleName?.isNone)=lS.map fun x=>(x.1,sentD x.2):=kR
theorem EB:(Rows.slabActsRow.laid.filter fun x=>x.2.handleName?.isSome)=Rows.slabActsRow.laid.take 1:=kR
def hd1:String×DataW Unit:=Rows.slabActsRow.laid.headD ("",.nil)
theorem take1:Rows.slabActsRow.laid.take 1=[hd1]:=rfl
def hName:List UInt8:=[101,114,114,111,114]
theorem typ_name (x:String×DataW Unit) (hx:x∈Rows.slabActsRow.laid.take 1):x.2.funcsIn?=none∧x.2.handleName?=some hName∧Tryz.prog.globalNamed x.1=some 10:=by
 rw[take1] at hx
 obtain rfl:=aZ.1 hx
 exact⟨kR,kR,kR⟩
theorem one_type:((List.range Tryz.prog.types.size).filter fun t=>Tryz.prog.rowNamed t hName)=[33]:=kR
theorem xG {W:World} (h:laidMetH Tryz.prog Rows.slabActsRow.laid W): ∃ev,oW W.heap.size ev W:=by
 have h':laidMet Tryz.prog (lS.map fun x=>(x.1,sentD x.2)) W∧handlesMet Tryz.prog (Rows.slabActsRow.laid.take 1) W:=by
  unfold laidMetH at h
  rw[EB,EA] at h
  exact h
 obtain⟨hS,hH⟩:=h'
 obtain⟨al,h1,h2,h3⟩:=sents_of lS kR hS
 have htyp:W.cell? ⟨10,0,none⟩=some (.iface 391 (.agg #[.pointer (some ⟨11,33,none⟩)])):=by
  have hx:hd1∈Rows.slabActsRow.laid.take 1:=by rw[take1];exact aZ.2 rfl
  obtain⟨n1,n2,n3⟩:=typ_name _ hx
  have:=hH _ hx
  rw[n1] at this
  obtain⟨name,u,ty,e1,e2,e3,e4,e5⟩:=this
  rw[n2] at e1
  obtain rfl:=aI e1
  have hm:ty∈(List.range Tryz.prog.types.size).filter fun t=>Tryz.prog.rowNamed t hName:=List.mem_filter.2 ⟨dU.2 e3,e4⟩
  rw[one_type] at hm
  obtain rfl:=aZ.1 hm
  have hh:typeHandle Tryz.prog 33= .pointer (some ⟨11,33,none⟩):=kR
  rw[hh] at e5
  have hu:u=391:=by
   have e6:=e2.symm
   have: ∀{y:Option TypeId},y=some 391→some u=y→u=391:=fun a b=>aI (b.trans a)
   exact this kR e6
  subst hu
  simpa using World.var?_cell n3 e5 0
 match al,h1,h2,h3 with
 |[a1,a2,a3,a4,a5,a6,a7,a8,a9,a10],_,h2,h3=>
  have g: ∀(i:Nat),1≤i→i≤10→∃x a,lS[i-1]?=some x∧[a1,a2,a3,a4,a5,a6,a7,a8,a9,a10][i-1]?=some a∧Tryz.prog.globalNamed x.1=some (errG i):=by
   intro i i1 i2
   match i,i1,i2 with
   |1,_,_=>exact⟨_,_,rfl,rfl,kR⟩
   |2,_,_=>exact⟨_,_,rfl,rfl,kR⟩
   |3,_,_=>exact⟨_,_,rfl,rfl,kR⟩
   |4,_,_=>exact⟨_,_,rfl,rfl,kR⟩
   |5,_,_=>exact⟨_,_,rfl,rfl,kR⟩
   |6,_,_=>exact⟨_,_,rfl,rfl,kR⟩
   |7,_,_=>exact⟨_,_,rfl,rfl,kR⟩
   |8,_,_=>exact⟨_,_,rfl,rfl,kR⟩
   |9,_,_=>exact⟨_,_,rfl,rfl,kR⟩
   |10,_,_=>exact⟨_,_,rfl,rfl,kR⟩
  generalize hl:[a1,a2,a3,a4,a5,a6,a7,a8,a9,a10]=L at*
  let ev:Nat→Addr:=fun i=>L.getD (i-1) default
  have hev: ∀i,1≤i→i≤10→L[i-1]?=some (ev i):=by
   intro i i1 i2
   obtain⟨x,a,_,hb,_⟩:=g i i1 i2
   show L[i-1]?=some (L.getD (i-1) default)
   rw[dx,hb];rfl
  have hcell: ∀i,1≤i→i≤10→W.cell? ⟨errG i,0,none⟩=some (iP ev i):=by
   intro i i1 i2
   obtain⟨x,a,ha,hb,hg⟩:=g i i1 i2
   have e:a=ev i:=aI (hb.symm.trans (hev i i1 i2))
   subst e
   have:=World.var?_cell hg (h2 _ x _ ha hb).1 0
   rw[this]
   obtain⟨j,rfl⟩: ∃j,i=j+1:=⟨i-1,om⟩
   rfl
  have hrow: ∀i,1≤i→i≤10→∃c t,W.heap[(ev i).block]?=some (.cells c t (0,0)):=by
   intro i i1 i2
   obtain⟨x,a,ha,hb,hg⟩:=g i i1 i2
   have e:a=ev i:=aI (hb.symm.trans (hev i i1 i2))
   subst e
   exact(h2 _ x _ ha hb).2
  refine⟨ev,aH _,fun i i1 i2=>lt_of_cell (hcell i i1 i2),hcell,?_,hrow,fun i i1 i2=> ?_,lt_of_cell htyp,htyp⟩
  ·intro i j i1 i2 j1 j2 he
   have hi:=hev i i1 i2
   have hj:=hev j j1 j2
   rcases Nat.lt_trichotomy i j with hlt|rfl|hlt
   ·exfalso
    have:=cK.1 h3 (i-1) (j-1) (ak.1 hi).1 (ak.1 hj).1 om
    rw[(ak.1 hi).2,(ak.1 hj).2] at this
    exact this he
   ·rfl
   ·exfalso
    have:=cK.1 h3 (j-1) (i-1) (ak.1 hj).1 (ak.1 hi).1 om
    rw[(ak.1 hi).2,(ak.1 hj).2] at this
    exact this he.symm
  ·obtain⟨c,t,hr⟩:=hrow i i1 i2
   exact Ez hr
end
end Go.Proofs.YtdcbhlcbiokbeaaGreatDoor
