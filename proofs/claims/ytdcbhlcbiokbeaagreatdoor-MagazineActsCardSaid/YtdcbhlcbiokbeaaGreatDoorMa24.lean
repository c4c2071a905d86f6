/- Lemmas and contracts for the claim's last text: MActs, Laid. -/
import Derived.Test.YtdcbhlcbiokbeaaGreatDoorMa01
import Derived.Test.YtdcbhlcbiokbeaaGreatDoorMa03
import Derived.Test.YtdcbhlcbiokbeaaGreatDoorMa23
set_option linter.unusedSimpArgs false
set_option linter.unusedVariables false
set_option maxHeartbeats 16000000
set_option maxRecDepth 100000
namespace Go.Proofs.YtdcbhlcbiokbeaaGreatDoor
section
open Go.RowKit Go.Maps
attribute [local go_sem ↓] aW aX
theorem sO {B:Nat} {ev:Nat→Addr} (vP vN vl:Value) (P:List Int) (N:List (List Int)) (mn lw hi:Int) (size workers:Int) (xs:List yj) (w:World) (hE:sS B ev w) (hC:Cfg [] w vP vN P N) (hfit:hi≤9223372036854775807) (hx:Bd w vl xs):
 Calls Tryz.prog 4 #[.agg #[vP,vN,.int .i64 mn,.int .i64 lw,.int .i64 hi],.int .i64 size,.int .i64 workers,vl] w fun e w'=>e= .returned (.bool true)∧Below w.heap.size w w':=by
 have hB:=hE.size
 obtain⟨p,cap,rfl,hcp,hmx,hcl⟩:=hC.p.int
 obtain⟨q,k,rfl,hck,hkm,_⟩:=hC.n.form
 obtain⟨pl,kl,rfl,⟨hkl,hml⟩,hxx⟩:=id hx
 have L0:=ah (iy.mk_ w [.slice p P.length cap,.slice q N.length k,.int .i64 mn,.int .i64 lw,.int .i64 hi] 27 rfl)
 have hb0:Below w.heap.size w (w.alloc (.cells [.slice p P.length cap,.slice q N.length k,.int .i64 mn,.int .i64 lw,.int .i64 hi].toArray 27)):=iB
 have HE:=ah hE;have HB0:=ah hb0;have HX:=ah hx
 have CF:Hid (∀W,Below w.heap.size w W→Cfg [] W (.slice p P.length cap) (.slice q N.length k) P N):=fun W hW=>hC.below hW
 have EE:Hid (∀W,Below w.heap.size w W→sS B ev W):=fun W hW=>hE.go hW
 have CA:=ah (Dx _ (hE.go hb0).s)
 obtain⟨n,hn⟩: ∃n,n=xs.length:=⟨_,rfl⟩
 have HN:=ah hn
 rw[←hn] at hkl HX ⊢
 unfold maxLen at hmx hkm hml
 clear hE hC hx hb0 hn hxx hcl
 go_enter Tryz.func4,Tryz.ntmps4
 go_wp2_with fail
 refine CA.out.mono ?_
 rintro e w1 ⟨rfl,hb1⟩
 have K1:Below w.heap.size w w1:=HB0.out.trans (hb1.mono sI)
 have HM1:=ah (L0.out.go hb1)
 have m0:=HM1.out.c 0 _ rfl;have m1:=HM1.out.c 1 _ rfl;have m2:=HM1.out.c 2 _ rfl;have m3:=HM1.out.c 3 _ rfl;have m4:=HM1.out.c 4 _ rfl;have ml:=HM1.out.lt
 have WI:=ah (wide_any (.slice p P.length cap) (.slice q N.length k) P N mn lw hi w1 (CF.out w1 K1))
 clear CA
 go_wp2_with fail
 refine WI.out.mono ?_
 rintro e w2 ⟨rfl,hb2⟩
 have K2:Below w.heap.size w w2:=K1.trans (hb2.mono K1.size)
 cases hw:zu P N with
 |true=>
  have ew:sG P N=1:=by unfold sG;rw[if_pos hw]
  rw[ew]
  clear hw ew
  go_wp2
  go_ret
  exact⟨rfl,K2⟩
 |false=>
 have ew:sG P N=0:=by unfold sG;rw[hw];rfl
 rw[ew]
 have HW:=ah (wideC_no hw)
 clear hw ew WI
 by_cases h80:100<n
 ·go_wp2
  go_ret
  exact⟨rfl,K2⟩
 have HM2:=ah (HM1.out.go hb2)
 have a0:=HM2.out.c 0 _ rfl;have a1:=HM2.out.c 1 _ rfl;have a2:=HM2.out.c 2 _ rfl;have a3:=HM2.out.c 3 _ rfl;have a4:=HM2.out.c 4 _ rfl;have al:=HM2.out.lt
 clear m0 m1 m2 m3 m4 ml
 have OF:Hid (∀W,Below w.heap.size w W→Calls Tryz.prog 19 #[.agg #[.slice p P.length cap,.slice q N.length k,.int .i64 mn,.int .i64 lw,.int .i64 hi]] W fun e w'=>∃vP' vN',e= .returned (.agg #[vP',vN',.int .i64 mn,.int .i64 lw,.int .i64 hi])∧Cfg [] w' vP' vN' P N∧Below W.heap.size W w'):=fun W hW=>Ag (X:=[]) _ _ P N mn lw hi W (CF.out W hW) (fun x hx=>by cases hx) HW.out.1 HW.out.2.1 HW.out.2.2
 have CE0:=DK [] (.slice p P.length cap) (.slice q N.length k) P N mn lw hi w2 (CF.out w2 K2)
 by_cases hcE:oM P N mn lw hi=0
 case neg=>
  obtain⟨ce,hce⟩: ∃ce,ce=oM P N mn lw hi:=⟨_,rfl⟩
  rw[←hce] at CE0 hcE
  have hp:decide ((0:Int)<(ce:Int))=true:=decide_eq_true om
  have hp0:0<ce:=om
  have hp1:(0:Int)<(ce:Int):=om
  have CE:=ah CE0
  clear CE0 hce hcE
  go_wp2_with fail
  refine CE.out.mono ?_
  rintro e w3 ⟨rfl,hb3⟩
  go_wp2
  go_ret
  exact⟨rfl,K2.trans (hb3.mono K2.size)⟩
 rw[hcE] at CE0
 have CE:=ah (show Calls Tryz.prog 17 #[.agg #[.slice p P.length cap,.slice q N.length k,.int .i64 mn,.int .i64 lw,.int .i64 hi]] w2 fun e w'=>e= .returned (.int .i64 0)∧Below w2.heap.size w2 w' from CE0)
 have HCE:=ah hcE
 clear CE0 hcE
 go_wp2_with fail
 refine CE.out.mono ?_
 rintro e w2' ⟨rfl,hb2'⟩
 have K2':Below w.heap.size w w2':=K2.trans (hb2'.mono K2.size)
 have HM2':=ah (HM2.out.go hb2')
 clear a0 a1 a2 a3 a4 al
 by_cases hs:size<1∨64<size
 ·have hd:(size<1∧decide (size<1)=true)∨(¬size<1∧decide (size<1)=false∧decide (64<size)=true):=by
   by_cases h0:size<1
   ·exact .inl ⟨h0,decide_eq_true h0⟩
   ·exact .inr ⟨h0,decide_eq_false h0,decide_eq_true om⟩
  clear hs
  rcases hd with⟨h0,d0⟩|⟨h0,d0,d1⟩
  all_goals
   go_wp2
   go_ret
   exact⟨rfl,K2'⟩
 obtain⟨e,rfl⟩: ∃e:Nat,size=e:=⟨size.toNat,om⟩
 have q1:1≤e:=om
 have q2:e≤64:=om
 have d0:decide ((e:Int)<1)=false:=decide_eq_false om
 have d1:decide ((64:Int)<(e:Int))=false:=decide_eq_false om
 clear hs
 have a0:=HM2'.out.c 0 _ rfl;have a1:=HM2'.out.c 1 _ rfl;have a2:=HM2'.out.c 2 _ rfl;have a3:=HM2'.out.c 3 _ rfl;have a4:=HM2'.out.c 4 _ rfl;have al:=HM2'.out.lt
 clear CE
 go_wp2_with fail
 refine(OF.out w2' K2').mono ?_
 rintro e w3 ⟨vP',vN',rfl,hcfg,hb3⟩
 have K3:Below w.heap.size w w3:=K2'.trans (hb3.mono K2'.size)
 have HM3:=ah (HM2'.out.go hb3)
 have NW:=ah (wZ [] vP' vN' P N mn lw hi w3 (EE.out w3 K3).c hcfg HCE.out hfit)
 clear hcfg a0 a1 a2 a3 a4 al
 go_wp2_with fail
 refine NW.out.mono ?_
 rintro e w4 ⟨pz,O,L,rfl,hz,hpz,hLn,hLF,hO,hb4⟩
 have z4:=hb4.size
 have HZ:=ah hz
 have HLN:=ah hLn;have HLF:=ah hLF;have HO:=ah hO
 have hLP:L.length=P.length:=by rw[←hLn,List.length_map]
 have hP4:1≤P.length∧P.length≤4:=⟨(BX HCE.out).1,(BX HCE.out).2.1⟩
 have K4:Below w.heap.size w w4:=K3.trans (hb4.mono K3.size)
 have HM4:=ah (HM3.out.go hb4)
 clear hz hLn hLF hO NW
 go_wp2_with fail
 refine(Fu pz e w4 q1 q2).mono ?_
 rintro r w5 ⟨rfl,hw5⟩
 have C0:=CS.new HZ.out om z4 e
 rw[←hw5] at C0
 have b5:Below w4.heap.size w4 w5:=by rw[hw5];exact iB
 have z5:=b5.size
 have HC0:=ah C0
 have K5:Below w.heap.size w w5:=K4.trans (b5.mono K4.size)
 have BEL5:=ah (hb4.trans (b5.mono z4))
 have hpc5:w4.heap.size<w5.heap.size:=by rw[hw5];simp
 obtain⟨pc,hpc⟩: ∃pc,pc=w4.heap.size:=⟨_,rfl⟩
 rw[←hpc] at HC0 hpc5 ⊢
 clear C0 hw5 hpc
 have HM5:=ah (HM4.out.go b5)
 have e2:jB ev 2= .iface 434 (.pointer (some (ev 2))):=rfl
 have e3:jB ev 3= .iface 434 (.pointer (some (ev 3))):=rfl
 have SN3:Hid (∀W,Below w.heap.size w W→Calls Tryz.prog 35 #[.pointer none,.int .i64 workers] W fun r w'=>r= .returned (.tuple #[.pointer none,.iface 434 (.pointer (some (ev 3)))])∧Below W.heap.size W w'):=fun W hW=>by rw[←e3];exact dnew_nil workers W (EE.out W hW).c
 have CD3:Hid (∀W,Below w.heap.size w W→Calls Tryz.prog 21 #[.iface 434 (.pointer (some (ev 3))),.int .i64 3] W fun e w'=>e= .returned (.bool true)∧Below W.heap.size W w'):=fun W hW=>by rw[←e3];exact pY 3 3 W (EE.out W hW) om rfl
 have CD2:Hid (∀W,Below w.heap.size w W→Calls Tryz.prog 21 #[.iface 434 (.pointer (some (ev 2))),.int .i64 2] W fun e w'=>e= .returned (.bool true)∧Below W.heap.size W w'):=fun W hW=>by rw[←e2];exact pY 2 2 W (EE.out W hW) om rfl
 by_cases hk:workers<1∨4<workers
 ·have SN:=dnew_err (B:=B) (ev:=ev) pc workers w5 (EE.out w5 K5).c hk
  rw[e2] at SN
  have HSN:=ah SN
  have hd:(workers<1∧decide (workers<1)=true)∨(¬workers<1∧decide (workers<1)=false∧decide (4<workers)=true):=by
   by_cases h0:workers<1
   ·exact .inl ⟨h0,decide_eq_true h0⟩
   ·exact .inr ⟨h0,decide_eq_false h0,decide_eq_true om⟩
  clear SN e2 e3 hk
  go_wp2_with fail
  refine HSN.out.mono ?_
  rintro r w6 ⟨rfl,hb6⟩
  have K6:Below w.heap.size w w6:=K5.trans (hb6.mono K5.size)
  go_wp2_with fail
  refine(SN3.out w6 K6).mono ?_
  rintro r w7 ⟨rfl,hb7⟩
  have K7:Below w.heap.size w w7:=K6.trans (hb7.mono K6.size)
  go_wp2_with fail
  refine(CD3.out w7 K7).mono ?_
  rintro r w8 ⟨rfl,hb8⟩
  have K8:Below w.heap.size w w8:=K7.trans (hb8.mono K7.size)
  rcases hd with⟨h0,d0'⟩|⟨h0,d0',d1'⟩
  all_goals
   go_wp2_with fail
   refine(CD2.out w8 K8).mono ?_
   rintro r w9 ⟨rfl,hb9⟩
   go_wp2
   go_ret
   exact⟨rfl,K8.trans (hb9.mono K8.size)⟩
 obtain⟨nw,rfl⟩: ∃nw:Nat,workers=nw:=⟨workers.toNat,om⟩
 have n1:1≤nw:=om
 have n4:nw≤4:=om
 have d0':decide ((nw:Int)<1)=false:=decide_eq_false om
 have d1':decide ((4:Int)<(nw:Int))=false:=decide_eq_false om
 clear hk e2 e3
 have hI: ∀x∈L,Inv x.n x.F x.T:=fun x hx=>(HZ.out.b.bud x hx).2
 have INV0:Hid (l8 e ⟨L,[]⟩):=⟨q1,q2,hI,by show L.length≤4;omega,List.Pairwise.nil,fun s hs=>(by cases hs),fun s hs=>(by cases hs)⟩
 go_wp2_with fail
 refine(Ga pc nw w5 n1 n4).mono ?_
 rintro r w6 ⟨rfl,hw6⟩
 have D0:=CD.start HC0.out om nw hw6
 have b6:Below w5.heap.size w5 w6:=by rw[hw6];exact iB
 have z6:=b6.size
 have K6:Below w.heap.size w w6:=K5.trans (b6.mono K5.size)
 obtain⟨pd,hpd⟩: ∃pd,pd=w5.heap.size+1:=⟨_,rfl⟩
 obtain⟨gh,hgh⟩: ∃gh,gh=w5.heap.size:=⟨_,rfl⟩
 rw[←hpd,←hgh] at D0
 rw[←hpd]
 have P6:=ah (show DpS w3.heap.size w3 pd pc pz gh mn lw hi O e _ [] ⟨⟨L,[]⟩,List.replicate nw ([],[]),[]⟩ w6 from⟨D0,jY.start INV0.out nw n1 n4,BEL5.out.trans (b6.mono (by have:=BEL5.out.size;omega))⟩)
 have HM6:=ah (HM5.out.go b6)
 clear D0 hw6 b6 hpd hgh
 go_wp2_with fail
 refine(SN3.out w6 K6).mono ?_
 rintro r w7 ⟨rfl,hb7⟩
 have K7:Below w.heap.size w w7:=K6.trans (hb7.mono K6.size)
 go_wp2_with fail
 refine(CD3.out w7 K7).mono ?_
 rintro r w8 ⟨rfl,hb8⟩
 have K8:Below w.heap.size w w8:=K7.trans (hb8.mono K7.size)
 have B68:Below w6.heap.size w6 w8:=hb7.trans (hb8.mono hb7.size)
 have z68:=B68.size
 have P8:=ah (P6.out.go P6.out.bel.size B68)
 have HM8:=ah (HM6.out.go B68)
 have a0:=HM8.out.c 0 _ rfl;have a1:=HM8.out.c 1 _ rfl;have a2:=HM8.out.c 2 _ rfl;have a3:=HM8.out.c 3 _ rfl;have a4:=HM8.out.c 4 _ rfl;have al:=HM8.out.lt
 have NZ:=ah (Ba _ (.slice p P.length cap) (.slice q N.length k) P N mn lw hi O L w8 (fun y hy=>(P8.out.lim y hy).2) (CF.out w8 K8) HCE.out hfit HLN.out HLF.out hI HZ.out.ord HO.out)
 have IND0:Hid (jY e ⟨⟨L,[]⟩,List.replicate nw ([],[]),[]⟩):=P8.out.inv
 clear hI SN3 CD3 CD2 P6
 go_wp2_with fail
 refine NZ.out.mono ?_
 rintro r w12 ⟨X,M,pm,gN,rfl,hrz,hX1,hX2,⟨hX3,hX4,hX5⟩,hb12⟩
 have K12:Below w.heap.size w w12:=K8.trans (hb12.mono K8.size)
 have z12:=hb12.size
 have ST:=fun(w15:World) hw=>DZX.start (nw:=nw) (w15:=w15) P8.out hb12 hrz hX1 hX2 hX3 hX4 hX5 hw
 have HST:=ah ST
 have EZ:Hid (tJ w3.heap.size ev w3):=((EE.out w3 K3).s).up (by have:=K3.size;omega) (aI _)
 have EE3:Hid (∀W,Below w3.heap.size w3 W→sS B ev W):=fun W hW=>EE.out W (K3.trans (hW.mono K3.size))
 have HKW:Hid (∀W,Below w3.heap.size w3 W→Below w.heap.size w W):=fun W hW=>K3.trans (hW.mono K3.size)
 have HLP:Hid (L.length=P.length):=hLP
 have HP4:Hid (1≤P.length∧P.length≤4):=hP4
 have HB3:Hid (B≤w3.heap.size):=by have:=K3.size;show B≤_;omega
 obtain⟨pcm,hpcm⟩: ∃pcm,pcm=w12.heap.size:=⟨_,rfl⟩
 clear ST NZ hrz hX1 hX2 hX3 hX4 hX5 a0 a1 a2 a3 a4 al HZ HLN HLF HO hLP hP4 P8
 go_wp2_with fail
 refine(rdnew_ok w12.heap.size nw _ n1 n4).mono ?_
 rintro r w15 ⟨rfl,hw15⟩
 simp at hw15
 have S0:=ah (HST.out w15 (by rw[hw15]))
 have e15:(w12.alloc (.cells #[.pointer (some ⟨pm,0,none⟩),.int .i64 e,.slice none 0 0] 47)).heap.size+1=w12.heap.size+2:=sI
 rw[e15]
 have HZ15:Hid (w3.heap.size≤w15.heap.size):=S0.out.bel.size
 obtain⟨pdm,hpdm⟩: ∃x,x=w12.heap.size+2:=⟨_,rfl⟩
 obtain⟨ghm,hghm⟩: ∃x,x=w12.heap.size+1:=⟨_,rfl⟩
 rw[←hpdm,←hghm,←hpcm] at S0
 rw[←hpdm]
 clear HST hw15 e15 hpdm hghm hpcm
 go_wp2_with fail
 go_loopw [17,18] (fun lv iv wr=>∃(i:Nat) (q:Option Addr) (k:Nat) (l:List Ob) (X:List Nat) (d:De),i≤n∧iv= .int .i64 i∧lv= .slice q l.length k∧Hid (l.length≤i)∧Hid (∀x∈l,lI x.2)∧Hid (wr.ownsRow w3.heap.size 49 2 (.slice q l.length k) l.length (jc l))∧Hid (DZX w3 X (iF (.slice q l.length k)++[]) pd pc pz gh pdm ghm pcm pm gN e mn lw hi O d d wr)∧Hid (d.c.L.length=P.length)∧Hid (d.H.length=nw)) (fun _ iv _=>n-(intOf iv).toNat)
 case atStart=>exact⟨0,none,0,[],_,_,aO _,by go_num,rfl,aO _,fun x hx=>(by cases hx),aR _ _ _ _,S0,HLP,by show _=_;simp⟩
 case round=>
  obtain⟨i,q,k,l,X,d,hin,rfl,rfl,HLI,HFI,HOW,HS,HLL,HNW⟩:=hrel
  clear S0 INV0 IND0
  have b3r:=HS.out.bel
  have KR:=HKW.out _ b3r
  have zr:=b3r.size
  have hli:=HLI.out
  by_cases hlt:i<n
  ·obtain⟨x,hx⟩: ∃x,xs[i]?=some x:=⟨xs[i]'(by rw[←HN.out];exact hlt),au _⟩
   obtain⟨g,off,cap',e',_,hg,hrow⟩:=(show Bd w (.slice pl n kl) xs from HX.out).form (by rw[←HN.out];omega)
   rw[←HN.out] at e'
   injection e' with e1 e2 e3
   subst e1 e3
   obtain⟨hfx,hcell⟩:=hrow i x hx
   have hgr:g<wr.heap.size:=by have:=KR.size;omega
   have r0:=(KR.cell (p:=⟨g,off+i*7+0,none⟩) hg).trans (hcell 0 _ rfl)
   have r1:=(KR.cell (p:=⟨g,off+i*7+1,none⟩) hg).trans (hcell 1 _ rfl)
   have r2:=(KR.cell (p:=⟨g,off+i*7+2,none⟩) hg).trans (hcell 2 _ rfl)
   have r3:=(KR.cell (p:=⟨g,off+i*7+3,none⟩) hg).trans (hcell 3 _ rfl)
   have r4:=(KR.cell (p:=⟨g,off+i*7+4,none⟩) hg).trans (hcell 4 _ rfl)
   have r5:=(KR.cell (p:=⟨g,off+i*7+5,none⟩) hg).trans (hcell 5 _ rfl)
   have r6:=(KR.cell (p:=⟨g,off+i*7+6,none⟩) hg).trans (hcell 6 _ rfl)
   clear hx hrow hcell
   obtain⟨kd,wk,nd,num,ud,on,oa⟩:=x
   simp only[yj.fits] at r0 r1 r2 r3 r4 r5 r6 hfx
   simp only[Nat.add_zero] at r0
   have HFO:Hid (lI oa):=hfx.2.2.2.2.2
   have HFN:Hid (lI num):=hfx.2.2.2.1
   have i0:(0:Int)≤(i:Int):=om
   have i1:(i:Int)<(n:Int):=om
   obtain⟨wa,hwa⟩: ∃wa,wa=wr.alloc (.cells #[.string kd,.int .i64 wk,.int .i64 nd,.int .i64 num,.bool ud,.int .i64 on,.int .i64 oa] 81):=⟨_,rfl⟩
   have ba:Below wr.heap.size wr wa:=by rw[hwa];exact iB
   have LB:=ah (show iy wa wr.heap.size [.string kd,.int .i64 wk,.int .i64 nd,.int .i64 num,.bool ud,.int .i64 on,.int .i64 oa] from by rw[hwa];exact iy.mk_ wr [.string kd,.int .i64 wk,.int .i64 nd,.int .i64 num,.bool ud,.int .i64 on,.int .i64 oa] 81 rfl)
   have SB:=ah (HS.out.go ba)
   have OB:=ah (iE HOW.out (Keep.of (S:=[]) ba) (fun s hs=>by cases hs))
   have NB0:Hid (wr.heap.size∉X):=fun q=>by have:=(HS.out.lim _ q).2;omega
   have HIN:=ah HS.out.inv
   have HORD:=ah HS.out.ord
   obtain⟨bx,hbx⟩: ∃bx,bx=wr.heap.size:=⟨_,rfl⟩
   have bxl:bx<wa.heap.size:=by rw[hbx];exact LB.out.lt
   rw[←hbx] at LB NB0
   have zwa:=ba.size
   have HOW2:=ah HOW.out
   clear hfx e2 b3r zr KR HS HOW ba
   have CLA:Hid (∀W,Below wa.heap.size wa W→True):=fun _ _=>trivial
   by_cases hkg:(kd.toList==[103,105,118,101])=true
   case' neg=>
    have hkf:(kd.toList==[103,105,118,101])=false:=by simpa using hkg
    clear hkg
    go_wp2_with fail
    all_goals
     rw[←hwa]
     try rw[←hbx]
     clear r0 r1 r2 r3 r4 r5 r6 hwa hgr hbx
    ·
     have TP:=dz_take wk nd ud EZ.out SB.out
     have TR:=ah (fun X1 d1 W (h:DZX w3 X1 (iF (.slice q l.length k)++[]) pd pc pz gh pdm ghm pcm pm gN e mn lw hi O d1 d W)=>dz_rtake wk nd ud HIN.out h)
     have hlen:=takeD_L (mn:=mn) (O:=O) (e:=e) (d:=d) wk nd ud
     have hhan:=Bb (mn:=mn) (O:=O) (e:=e) (d:=d) (k:=wk) (v:=nd) (u:=ud)
     have hcd:=DR (mn:=mn) (O:=O) (e:=e) (d:=d) wk nd ud
     have hfit:=take_fit (mn:=mn) HORD.out HIN.out wk nd ud
     obtain⟨⟨d2,qq,j1,j2⟩,hr⟩: ∃r,r=takeD mn O e d wk nd ud:=⟨_,rfl⟩
     rw[←hr] at TP TR hlen hhan hcd hfit
     simp only[obV] at TP TR hlen hhan hcd hfit
     have CD:=ah (fun W (hW:Below w3.heap.size w3 W)=>pY qq qq W (EE3.out W hW) hcd rfl)
     have HL2:Hid (d2.c.L.length=P.length):=hlen.trans HLL.out
     have HH2:Hid (d2.H.length=nw):=hhan.trans HNW.out
     have HFT:=ah hfit
     obtain⟨E,hE'⟩: ∃E,E=jB ev qq:=⟨_,rfl⟩
     rw[←hE'] at TP CD
     have HTP:=ah TP
     have nb:=neqO2;have gb:=vg
     clear hr hlen hhan hE' TP hfit CLA
     refine HTP.out.mono ?_
     rintro r wb ⟨rfl,X1,st1,k1,x1,m1⟩
     have LB2:=LB.out.keep k1 (fun t=>NB0.out (iQ.1 t).1)
     have OB2:=ah (iE OB.out k1 (fun s hs q=>(iQ.1 hs).2 (av _ q)))
     have LP:=ah (iy.mk_ wb [.int .i64 j1,.int .i64 j2] 49 rfl)
     have STB:=ah (st1.go (w':=wb.alloc (.cells [.int .i64 j1,.int .i64 j2].toArray 49)) iB)
     have OB3:=ah (OB2.out.alloc (.cells [.int .i64 j1,.int .i64 j2].toArray 49))
     have NP:Hid (wb.heap.size∉X1):=fun t=>by have:=(st1.lim _ t).2;omega
     have y1:=LB2.c 1 _ rfl;have y2:=LB2.c 2 _ rfl;have y4:=LB2.c 4 _ rfl;have yl:=LB2.lt
     clear HTP st1 k1 x1 m1 LB2 OB2
     go_wp2_with fail
     refine(TR.out _ _ _ STB.out).mono ?_
     rintro r wc ⟨rfl,X2,st2,k2,x2,m2⟩
     have LP2:=LP.out.keep k2 (fun t=>NP.out (iQ.1 t).1)
     have STC:=ah (st2.go (w':=wc.alloc (.cells [.int .i64 j1,.int .i64 j2].toArray 49)) iB)
     have OB4:=ah ((iE OB3.out k2 (fun s hs q=>(iQ.1 hs).2 (av _ q))).alloc (.cells [.int .i64 j1,.int .i64 j2].toArray 49))
     have LQ:=ah (iy.mk_ wc [.int .i64 j1,.int .i64 j2] 49 rfl)
     have HLP2:=ah (LP2.past (.cells [.int .i64 j1,.int .i64 j2].toArray 49))
     clear TR STB LP st2 k2 x2 m2 LP2 y1 y2 y4 yl NP OB3
     go_wp2_with fail
     refine(CD.out _ STC.out.bel).mono ?_
     rintro r wd ⟨rfl,hbd⟩
     have STD:=ah (STC.out.go hbd)
     have zd15:=STD.out.bel.size
     have OB5:=ah (iE OB4.out (Keep.of (S:=[]) hbd) (fun s hs=>by cases hs))
     have p0:=(HLP2.out.go hbd).c 0 _ rfl;have p1:=(HLP2.out.go hbd).c 1 _ rfl;have ppl:=(HLP2.out.go hbd).lt
     have u0:=(LQ.out.go hbd).c 0 _ rfl;have u1:=(LQ.out.go hbd).c 1 _ rfl;have uql:=(LQ.out.go hbd).lt
     clear CD STC hbd HLP2 LQ OB4
     by_cases hq0:qq=0
     ·subst hq0
      have S6:=ah (STD.out.go (show Below wd.heap.size wd (wd.alloc (.cells #[.int .i64 j1,.int .i64 j2] 49)) from iB))
      have O6:=ah (OB5.out.alloc (.cells #[.int .i64 j1,.int .i64 j2] 49))
      have NW:Hid (∀(j:Nat) (u:Value),[Value.int .i64 j1,.int .i64 j2][j]?=some u→(wd.alloc (.cells #[.int .i64 j1,.int .i64 j2] 49)).cell? ((⟨wd.heap.size,0,none⟩:Addr).add j)=some u):=nN wd (.int .i64 j1) (.int .i64 j2) 49
      clear STD OB5
      go_wp2_with (first|(at_builtin;refine nI sH (base:=w3.heap.size) (v:=.slice q l.length k) (n:=l.length) (ms:=[.int .i64 j1,.int .i64 j2]) (ad:=⟨wd.heap.size,0,none⟩) rf (.tmp 174) (.tmp 176) rf rf rf O6.out rfl NW.out (nO _ _) om (by simp;omega) ?_;intro q4 k4 w8 hown8 hg8 hob8))
      obtain⟨X',_,_,P8⟩:=S6.out.app hg8 hob8 (fun g hg=>(hown8.lt g hg).2)
      have HP8:=ah P8
      have HO8:=ah (show w8.ownsRow w3.heap.size 49 2 (.slice q4 (l.length+1) k4) (l.length+1) (jc (l++[(j1,j2)])) from by rw[jS];exact hown8)
      have le:(l++[(j1,j2)]).length=l.length+1:=sI
      have HF8:Hid (∀x∈l++[(j1,j2)],lI x.2):=fun x hx=>by
       rcases aG.1 hx with t|t
       ·exact HFI.out x t
       ·simp at t;subst t;exact HFT.out (by first|rfl|simp)
      clear hown8 hg8 hob8 P8
      go_wp2
      go_roundw
      case rel=>exact⟨i+1,q4,k4,l++[(j1,j2)],X',d2,om,by go_num,by rw[le],by show _≤_;omega,HF8,by rw[le];exact HO8,by rw[le];exact HP8,HL2,HH2⟩
      case measure=>simp[intOf];omega
     ·have hq1: ¬((qq:Int)=0):=by omega
      have hq2:((qq:Int)==0)=false:=by simpa using hq1
      go_wp2
      go_roundw
      case rel=>exact⟨i+1,q,k,l,X2,d2,om,by go_num,rfl,by show _≤_;omega,HFI,OB5,STD,HL2,HH2⟩
      case measure=>simp[intOf];omega
    ·
     have DP:=dz_drain wk EZ.out SB.out
     have WK:=ah (fun X1 d1 W (h:DZX w3 X1 (iF (.slice q l.length k)++[]) pd pc pz gh pdm ghm pcm pm gN e mn lw hi O d1 d W)=>Ho wk h)
     have hDL:=drainD_L HIN.out wk
     by_cases hv:0≤wk∧wk<nw
     ·have hd0:decide (0≤wk∧wk<(d.H.length:Int))=true:=decide_eq_true (by rw[HNW.out];exact hv)
      rw[hd0] at WK
      obtain⟨kn,rfl⟩: ∃kn:Nat,wk=kn:=⟨wk.toNat,om⟩
      have hkn:kn<d.H.length:=by rw[HNW.out];omega
      have TR:=ah (fun X1 d1 W (h:DZX w3 X1 (iF (.slice q l.length k)++[]) pd pc pz gh pdm ghm pcm pm gN e mn lw hi O d1 d W)=>Hg kn HIN.out hkn h)
      have h0:(jg e d kn).2.1=0:=by unfold jg;rw[jo (au hkn)]
      obtain⟨⟨d2,qq,nn⟩,hr⟩: ∃r,r=jg e d kn:=⟨_,rfl⟩
      rw[←hr] at DP TR hDL h0
      simp only at DP TR hDL h0
      subst h0
      simp only[jB] at DP
      have HL2:Hid (d2.c.L.length=P.length):=by show _=_;rw[hDL.1];exact HLL.out
      have HH2:Hid (d2.H.length=nw):=hDL.2.trans HNW.out
      have HDP:=ah DP
      clear hr hDL DP hd0 hkn CLA
      refine HDP.out.mono ?_
      rintro r wb ⟨rfl,X1,st1,k1,x1,m1⟩
      have LB2:=ah (LB.out.keep k1 (fun t=>NB0.out (iQ.1 t).1))
      have OB2:=ah (iE OB.out k1 (fun s hs q=>(iQ.1 hs).2 (av _ q)))
      have ST1:=ah st1
      have NB1:Hid (bx∉X1):=fun t=>by rcases x1 _ t with r|r;(·exact NB0.out r);(·omega)
      have y1:=LB2.out.c 1 _ rfl;have yl:=LB2.out.lt
      clear HDP st1 k1 x1 m1
      go_wp2_with fail
      refine(WK.out _ _ _ ST1.out).mono ?_
      rintro r wb' ⟨rfl,rfl⟩
      clear WK
      go_wp2_with fail
      refine(TR.out _ _ _ ST1.out).mono ?_
      rintro r wc ⟨rfl,X2,st2,k2,x2,m2⟩
      have OB4:=ah (iE OB2.out k2 (fun s hs q=>(iQ.1 hs).2 (av _ q)))
      have STC:=ah st2
      clear TR ST1 st2 k2 x2 m2 y1 yl LB2 NB1 OB2
      go_wp2
      go_roundw
      case rel=>exact⟨i+1,q,k,l,X2,d2,om,by go_num,rfl,by show _≤_;omega,HFI,OB4,STC,HL2,HH2⟩
      case measure=>simp[intOf];omega
     ·have hd0:decide (0≤wk∧wk<(d.H.length:Int))=false:=decide_eq_false (by rw[HNW.out];exact hv)
      rw[hd0] at WK
      have hbad:jI d wk=none:=by
       unfold jI
       by_cases h0:wk<0
       ·rw[if_pos h0]
       ·rw[if_neg h0];exact gQ (by rw[HNW.out];omega)
      have ed:jg e d wk=(d,2,0):=by unfold jg;rw[hbad]
      rw[ed] at DP
      simp only at DP
      have CD:=ah (fun W (hW:Below w3.heap.size w3 W)=>pY 2 2 W (EE3.out W hW) om rfl)
      obtain⟨E,hE'⟩: ∃E,E=jB ev 2:=⟨_,rfl⟩
      rw[←hE'] at DP CD
      have HDP:=ah DP
      clear hDL DP hd0 hbad ed hE' CLA
      refine HDP.out.mono ?_
      rintro r wb ⟨rfl,X1,st1,k1,x1,m1⟩
      have LB2:=ah (LB.out.keep k1 (fun t=>NB0.out (iQ.1 t).1))
      have OB2:=ah (iE OB.out k1 (fun s hs q=>(iQ.1 hs).2 (av _ q)))
      have ST1:=ah st1
      have y1:=LB2.out.c 1 _ rfl;have yl:=LB2.out.lt
      clear HDP st1 k1 x1 m1
      go_wp2_with fail
      refine(WK.out _ _ _ ST1.out).mono ?_
      rintro r wb' ⟨rfl,rfl⟩
      clear WK
      go_wp2_with fail
      refine(CD.out _ ST1.out.bel).mono ?_
      rintro r wd ⟨rfl,hbd⟩
      have STD:=ah (ST1.out.go hbd)
      have OB5:=ah (iE OB2.out (Keep.of (S:=[]) hbd) (fun s hs=>by cases hs))
      clear CD ST1 hbd LB2 y1 yl OB2
      go_wp2
      go_roundw
      case rel=>exact⟨i+1,q,k,l,X1,d,om,by go_num,rfl,by show _≤_;omega,HFI,OB5,STD,HLL,HNW⟩
      case measure=>simp[intOf];omega
    ·
     have DP:=dz_empty EZ.out SB.out
     have TR:=ah (fun X1 d1 W (h:DZX w3 X1 (iF (.slice q l.length k)++[]) pd pc pz gh pdm ghm pcm pm gN e mn lw hi O d1 d W)=>Hl HIN.out h)
     have hDL:=emptyD_L (e:=e) HIN.out
     obtain⟨⟨d2,nn⟩,hr⟩: ∃r,r=kL e d:=⟨_,rfl⟩
     rw[←hr] at DP TR hDL
     simp only at DP TR hDL
     have HL2:Hid (d2.c.L.length=P.length):=by show _=_;rw[hDL.1];exact HLL.out
     have HH2:Hid (d2.H.length=nw):=hDL.2.trans HNW.out
     have HDP:=ah DP
     clear hr hDL DP CLA
     refine HDP.out.mono ?_
     rintro r wb ⟨rfl,X1,st1,k1,x1,m1⟩
     have OB2:=ah (iE OB.out k1 (fun s hs q=>(iQ.1 hs).2 (av _ q)))
     have ST1:=ah st1
     clear HDP st1 k1 x1 m1
     go_wp2_with fail
     refine(TR.out _ _ _ ST1.out).mono ?_
     rintro r wc ⟨rfl,X2,st2,k2,x2,m2⟩
     have OB4:=ah (iE OB2.out k2 (fun s hs q=>(iQ.1 hs).2 (av _ q)))
     have STC:=ah st2
     clear TR ST1 st2 k2 x2 m2 OB2
     go_wp2
     go_roundw
     case rel=>exact⟨i+1,q,k,l,X2,d2,om,by go_num,rfl,by show _≤_;omega,HFI,OB4,STC,HL2,HH2⟩
     case measure=>simp[intOf];omega
   ·
    have hkt:(kd.toList==[116,97,107,101])=false:=by
     rw[show kd.toList=[103,105,118,101] from by simpa using hkg];rfl
    have HGV:Hid (∀(o:Ob),lI o.2→∃(d2:De) (qq:Nat) (E:Value),(∀W X1 d1,DZX w3 X1 (iF (.slice q l.length k)++[]) pd pc pz gh pdm ghm pcm pm gN e mn lw hi O d d1 W→Calls Tryz.prog 39 #[.pointer (some ⟨pd,0,none⟩),.int .i64 wk,.agg #[.int .i64 o.1,.int .i64 o.2]] W (pQ w3 X1 (iF (.slice q l.length k)++[]) pd pc pz gh pdm ghm pcm pm gN e mn lw hi O d2 d1 W E))∧(∀W X1 d1,DZX w3 X1 (iF (.slice q l.length k)++[]) pd pc pz gh pdm ghm pcm pm gN e mn lw hi O d1 d W→Calls Tryz.prog 40 #[.pointer (some ⟨pdm,0,none⟩),.int .i64 wk,.agg #[.int .i64 o.1,.int .i64 o.2]] W (pQ w3 X1 (iF (.slice q l.length k)++[]) pd pc pz gh pdm ghm pcm pm gN e mn lw hi O d1 d2 W (.int .i64 qq)))∧(∀W,Below w3.heap.size w3 W→Calls Tryz.prog 21 #[E,.int .i64 qq] W fun e w'=>e= .returned (.bool true)∧Below W.heap.size W w')∧d2.c.L.length=P.length∧d2.H.length=nw):=fun o ho=>
     ⟨(iU e d wk o).1,(iU e d wk o).2,jB ev (iU e d wk o).2,fun W X1 d1 h=>dz_give wk o EZ.out h ho.1 ho.2,fun W X1 d1 h=>dz_rgive wk o HIN.out h,fun W hW=>pY _ _ W (EE3.out W hW) (DT wk o) rfl,by rw[giveD_c];exact HLL.out,(Bc).trans HNW.out⟩
    obtain⟨ob,rfl,rfl⟩: ∃ob:Ob,on=ob.1∧oa=ob.2:=⟨(on,oa),rfl,rfl⟩
    have sza:wa.heap.size=wr.heap.size+1:=by rw[hwa];simp
    have HSZ:=ah sza
    have HC3:(0<l.length∧0≤num)∨l.length=0∨num<0:=om
    clear CLA sza
    refine HC3.elim (fun HC3=> ?gA) (fun HC3=>HC3.elim (fun g1=> ?gB) (fun g1=> ?gC))
    case' gA=>
     obtain⟨g1,g2⟩:=HC3
     have d1':decide ((0:Int)<(l.length:Int))=true:=decide_eq_true om
     have d2':decide (0≤num)=true:=decide_eq_true g2
     obtain⟨m,hm⟩: ∃m:Nat,(m:Int)=num % (l.length:Int):=⟨(num % (l.length:Int)).toNat,by have:=Int.emod_nonneg num (b:=(l.length:Int)) om;omega⟩
     have hml:m<l.length:=by have:=Int.emod_lt_of_pos num (b:=(l.length:Int)) om;omega
     have hq:num.tmod (l.length:Int)=(m:Int):=by rw[Int.tmod_eq_emod_of_nonneg g2,hm]
     have hn0: ¬((l.length:Int)=0):=om
     have hn1: ¬(l.length=0):=om
     obtain⟨o,ho⟩: ∃o,l[m]?=some o:=⟨l[m],au hml⟩
     obtain⟨gg,eg,k1,k2,ggl,ggb,y0,y1,_,_⟩:=own_srcs HOW2.out ho
     subst eg
     unfold maxLen at k2
     have hmi:(m:Int)<(l.length:Int):=om
     have hm0:(0:Int)≤(m:Int):=om
     have FIT:Hid (lI o.2):=HFI.out o (aB ho)
     obtain⟨u1,u2⟩:=HFN.out
     clear hm ho k1
     go_wp2_with fail
     rw[←hwa]
    case' gB=>
     have d1':decide ((0:Int)<(l.length:Int))=false:=decide_eq_false om
     clear g1
     obtain⟨o,ho⟩: ∃o,o=ob:=⟨_,rfl⟩
     have FIT:Hid (lI o.2):=by rw[ho];exact HFO.out
     have HOO:=ah ho
     clear ho
     go_wp2_with fail
     all_goals
      rw[←hwa,←HOO.out]
    case' gC=>
     have d2':decide (0≤num)=false:=decide_eq_false om
     obtain⟨o,ho⟩: ∃o,o=ob:=⟨_,rfl⟩
     have FIT:Hid (lI o.2):=by rw[ho];exact HFO.out
     have HOO:=ah ho
     clear ho
     go_wp2_with fail
     all_goals
      rw[←hwa,←HOO.out]
    all_goals
     obtain⟨wb,hwb⟩: ∃wb,wb=wa.alloc (.cells #[.int .i64 o.1,.int .i64 o.2] 49):=⟨_,rfl⟩
     have bb:Below wa.heap.size wa wb:=by rw[hwb];exact iB
     have LOB0:=(show iy wb wa.heap.size [.int .i64 o.1,.int .i64 o.2] from by rw[hwb];exact iy.mk_ wa [.int .i64 o.1,.int .i64 o.2] 49 rfl)
     rw[HSZ.out,←hbx] at LOB0
     obtain⟨bo,hbo⟩: ∃bo,bo=bx+1:=⟨_,rfl⟩
     rw[←hbo] at LOB0
     have LOB:=ah LOB0
     have LBB:=ah (LB.out.go bb)
     have SBB:=ah (SB.out.go bb)
     have OBB:=ah (iE OB.out (Keep.of (S:=[]) bb) (fun s hs=>by cases hs))
     have NO0:Hid (bo∉X):=fun t=>by have:=(SB.out.lim _ t).2;have:=HSZ.out;omega
     obtain⟨d2,qq,E,G1,G2,CD,hL2,hH2⟩:=HGV.out o FIT.out
     have HG1:=ah G1;have HG2:=ah G2;have HCD:=ah CD;have HL2:=ah hL2;have HH2:=ah hH2
     rw[←hwb,←hbx,←hbo]
     have bxb:bx<wb.heap.size:=LBB.out.lt
     have bob:bo<wb.heap.size:=LOB.out.lt
     have x1':=LBB.out.c 1 _ rfl;have z0':=LOB.out.c 0 _ rfl;have z1':=LOB.out.c 1 _ rfl
     have HBZ:Hid (bx<wb.heap.size∧bo<wb.heap.size):=⟨bxb,bob⟩
     clear r0 r1 r2 r3 r4 r5 r6 hwa hwb hbx hbo hgr bb LOB0 G1 G2 CD hL2 hH2 HGV hkg hkt
     go_region_held3 (fun w'=>w'.cell? ⟨bx,1,none⟩=some (.int .i64 wk)∧w'.cell? ⟨bo,0,none⟩=some (.int .i64 o.1)∧w'.cell? ⟨bo,1,none⟩=some (.int .i64 o.2)) (go_keep) (first
      |(go_at_call 39;refine(HG1.out _ _ _ (SBB.out.go iB)).mono ?_;rintro r wc ⟨rfl,X1,st1,k1',x1,m1⟩;have LB2:=(LBB.out.jF).keep k1' (fun t=>NB0.out (iQ.1 t).1);have LO2:=(LOB.out.jF).keep k1' (fun t=>NO0.out (iQ.1 t).1);have nx1:bx∉X1:=(fun t=>by rcases x1 _ t with r|r;(·exact NB0.out r);(·have:=HBZ.out.1;simp at r;omega));have no1:bo∉X1:=(fun t=>by rcases x1 _ t with r|r;(·exact NO0.out r);(·have:=HBZ.out.2;simp at r;omega));have a1:=LB2.c 1 _ rfl;have a2:=LO2.c 0 _ rfl;have a3:=LO2.c 1 _ rfl)
      |(go_at_call 40;refine(HG2.out _ _ _ st1).mono ?_;rintro r wd ⟨rfl,X2,st2,k2',x2,m2⟩;have LB3:=LB2.keep k2' (fun t=>nx1 (iQ.1 t).1);have LO3:=LO2.keep k2' (fun t=>no1 (iQ.1 t).1);have b1:=LB3.c 1 _ rfl;have b2:=LO3.c 0 _ rfl;have b3:=LO3.c 1 _ rfl)
      |(go_at_call 21;refine(HCD.out _ st2.bel).mono ?_;rintro r we ⟨rfl,hbd⟩;have std:=st2.go hbd;have LB4:=LB3.go hbd;have LO4:=LO3.go hbd;have c1:=LB4.c 1 _ rfl;have c2:=LO4.c 0 _ rfl;have c3:=LO4.c 1 _ rfl))
     have STD:=ah std
     have OBE:=ah (iE (iE (iE OBB.out.drew k1' (fun s hs q=>(iQ.1 hs).2 (av _ q))) k2' (fun s hs q=>(iQ.1 hs).2 (av _ q))) (Keep.of (S:=[]) hbd) (fun s hs=>by cases hs))
     clear std st2 st1 k1' k2' LB2 LB3 LB4 LO2 LO3 LO4 a1 a2 a3 b1 b2 b3 c1 c2 c3 HG1 HG2 HCD hbd nx1 no1 x1 x2 m1 m2 x1' z0' z1'
     go_wp2
     go_roundw
     case rel=>exact⟨i+1,_,_,l,X2,d2,om,by go_num,rfl,by show _≤_;omega,HFI,OBE,STD,HL2,HH2⟩
     case measure=>simp[intOf];omega
  ·
   have HI0:=HS.out.inv
   obtain⟨M',v',A',V',vp',U',t⟩:=HS.out
   have AC:=ah (DN t)
   have HT:=ah t
   have pd0:=t.r.b.d.c 0 _ rfl;have pdl:=t.r.b.d.lt
   have h4:d.c.L.length≤4:=by have:=HLL.out;have:=HP4.out;omega
   have hLpos:0<d.c.L.length:=by have:=HLL.out;have:=HP4.out;omega
   have AZ:Hid (∀W,Below wr.heap.size wr W→Calls Tryz.prog 33 #[.pointer (some ⟨pz,0,none⟩),.pointer (some ⟨pm,0,none⟩)] W fun r w'=>r= .returned (.bool true)∧Below W.heap.size W w'):=fun W hW=>by
    have bw:=t.s.bel.trans (hW.mono t.s.bel.size)
    obtain⟨v1,A1,V1,vp1,U1,q1,hf1⟩:=(t.s.go t.s.bel.size hW).cd
    exact H7 pz pm gN mn lw hi O M' d.c.L W (EE3.out W bw) HB3.out bw.size q1.cs.z.toB (t.r.below hW).c.z hLpos h4
   have PC:Hid (∀W,Below wr.heap.size wr W→W.cell? ⟨pdm,0,none⟩=some (.pointer (some ⟨pcm,0,none⟩))∧pdm<W.heap.size∧W.cell? ⟨pcm,0,none⟩=some (.pointer (some ⟨pm,0,none⟩))∧pcm<W.heap.size):=fun W hW=>by
    have r:=t.r.below hW
    exact⟨r.b.d.c 0 _ rfl,r.b.d.lt,r.c.b.c.c 0 _ rfl,r.c.b.c.lt⟩
   have KRW:=ah KR
   clear t b3r pd0 pdl h4 hLpos KR
   go_wp2_with fail
   refine AC.out.mono ?_
   rintro r w20 ⟨rfl,hb20⟩
   have z20:=hb20.size
   have AZW:=ah (AZ.out w20 hb20)
   obtain⟨c0,l0,c1,l1⟩:=PC.out w20 hb20
   have K20:=ah (KRW.out.trans (hb20.mono KRW.out.size))
   clear AC AZ PC hb20
   go_wp2_with fail
   refine AZW.out.mono ?_
   rintro r w21 ⟨rfl,hb21⟩
   go_wp2
   go_ret
   exact⟨sI,K20.out.trans (hb21.mono K20.out.size)⟩
end
section
open Go.RowKit Go.ChangeShapes
def nmES:String:=match Rows.laid_slabyard_api_ErrBound (H:=Unit) with| .iface n _=>n|_=> ""
def sentD (text:List UInt8):DataW Unit:=.iface nmES (.ptr (.agg [.lit (.string text)]))
def sentT:DataW Unit→List UInt8| .iface _ (.ptr (.agg [.lit (.string t)]))=>t|_=>[]
theorem DV {P:Program} {W:World} {ti tp te ts:TypeId} {ms:Array (String×TypeId)} {f:Field}
 (hi:P.underlying ti=some (.interface ms)) (hrow: ∀u,P.typeName? 3 u=some nmES→u=tp)
 (hp:P.underlying tp=some (.pointer te)) (he:P.underlying te=some (.struct #[f])) (hft:f.type=ts) (hfo:f.offset=0) (hs:P.underlying ts=some .string) (hc:P.cellsOf te=1) (hcs:P.cellsOf ts=1):
 ∀(l:List (String×List UInt8)) (ps:List MemPlace),(∀x∈l,∃g,P.globalNamed x.1=some g∧(P.globals[g]?).map (·.type)=some ti)→
  DataW.LaidVars P W (l.map fun x=>(x.1,sentD x.2)) ps→ps.Nodup→
  (∀b off,MemPlace.cell b off∈ps→(∃c t,W.heap[b]?=some (.cells c t (0,0)))∧∀u v,W.cell? ⟨b,off,none⟩=some (.iface u v)→Value.okWide P W .any 0 u v)→
  ∃al:List Addr,al.length=l.length∧(∀(j:Nat) (x:String×List UInt8) (a:Addr),l[j]?=some x→al[j]?=some a→W.var? P x.1=some #[.iface tp (.pointer (some a))]∧∃c t,W.heap[a.block]?=some (.cells c t (0,0)))∧
   al.Pairwise (· ≠ ·)∧∀a∈al,MemPlace.cell a.block a.off∈ps:=by
 intro l
 induction l with
 |nil=>
  intro ps _ _ _ _
  exact⟨[],rfl,fun j x a h=>by simp at h,List.Pairwise.nil,fun a h=>by simp at h⟩
 |cons x r ih=>
  intro ps hg hv hnd hrows
  obtain⟨g0,t0,cs0,f0,p0,q0,hg0,ht0,hv0,hd0,hq,e0⟩:=hv
  obtain⟨g,hgx,htx⟩:=hg x sI
  obtain rfl:=aH (hgx.symm.trans hg0)
  obtain rfl:=aH (htx.symm.trans ht0)
  subst e0
  obtain⟨l0⟩:=cs0
  have ok0: ∀u v,l0=[.iface u v]→Value.okWide P W .any 0 u v:=fun u v e=>by
   subst e
   exact(hrows g 0 (by simp[MemPlace.row])).2 u v (by simpa using World.var?_cell hg0 hv0 0)
  obtain⟨a0,s0,rfl,hc0,hs0,hz0,rfl⟩:=errorString_of_trod hi hrow hp he hft hfo hs hc hcs hd0 ok0
  obtain⟨al,hl,hall,hpw,hmem⟩:=ih q0 (fun y hy=>hg y (by simp[hy])) hq (List.Nodup.sublist (List.sublist_append_right _ _) hnd) (fun b off hm=>hrows b off (aA _ hm))
  refine⟨a0::al,by simp[hl],?_,?_,?_⟩
  ·intro j y a hy ha
   cases j with
   |zero=>
    simp at hy ha
    subst hy;subst ha
    exact⟨hv0,(hrows a0.block a0.off (by simp[MemPlace.row])).1⟩
   |succ j=>exact hall j y a (by simpa using hy) (by simpa using ha)
  ·refine bG.2 ⟨fun b hb e=> ?_,hpw⟩
   subst e
   have h1:=hmem a0 hb
   have h2:=(cO.1 hnd).2.2 (MemPlace.cell a0.block a0.off) (by simp[MemPlace.row]) _ h1
   exact h2 rfl
  ·intro a ha
   rcases aC.1 ha with rfl|ha
   ·simp[MemPlace.row]
   ·exact aA _ (hmem a ha)
theorem one_row: ∀u,Tryz.prog.typeName? 3 u=some nmES→u=434:=fun u h=>
 typeName_ptr_named (nm:= "errors.errorString") kR kR (by decide) u (h.trans kR)
theorem cells_es:Tryz.prog.cellsOf 454=1:=kR
theorem Hr:Tryz.prog.cellsOf 9=1:=kR
noncomputable def Ht (x:String×List UInt8):Bool:=match Tryz.prog.globalNamed x.1 with|some g=>(Tryz.prog.globals[g]?).map (·.type)==some 33|none=>false
theorem DW {x:String×List UInt8} (h:Ht x=true): ∃g,Tryz.prog.globalNamed x.1=some g∧(Tryz.prog.globals[g]?).map (·.type)=some 33:=by
 unfold Ht at h
 cases e:Tryz.prog.globalNamed x.1 with
 |none=>rw[e] at h;cases h
 |some g=>rw[e] at h;exact⟨g,rfl,by simpa using h⟩
theorem sents_of (l:List (String×List UInt8)) (hl:l.all Ht=true) {W:World} (h:laidMet Tryz.prog (l.map fun x=>(x.1,sentD x.2)) W):
 ∃al:List Addr,al.length=l.length∧(∀(j:Nat) (x:String×List UInt8) (a:Addr),l[j]?=some x→al[j]?=some a→W.var? Tryz.prog x.1=some #[.iface 434 (.pointer (some a))]∧∃c t,W.heap[a.block]?=some (.cells c t (0,0)))∧
  al.Pairwise (· ≠ ·):=by
 obtain⟨ps,hv,hnd,hrows⟩:=h
 obtain⟨al,h1,h2,h3,_⟩:=DV Tryz.underlying33 one_row Tryz.underlying434 Tryz.underlying454 rfl rfl Tryz.underlying9 cells_es Hr l ps (fun x hx=>DW (fQ.1 hl x hx)) hv hnd hrows
 exact⟨al,h1,h2,h3⟩
theorem lt_of_cell {W:World} {a:Addr} {v:Value} (h:W.cell? a=some v):a.block<W.heap.size:=by
 rcases dH a.block W.heap.size with h'|h'
 ·exact h'
 ·simp[World.cell?,dO h'] at h
theorem Hu {W:World} {b:Nat} {o:Obj} (h:W.heap[b]?=some o):b<W.heap.size:=(Array.getElem?_eq_some_iff.1 h).1
theorem rP {H:Type} {enc:TypeId×Value→H} {P:Program} (hl:laidOutB P=true) {W W':World} (hb:Below W.heap.size W W'):
 ∀{ts:List TypeId} {vs:List Value} {ds:List (DataW H)} {ps:List MemPlace},(∀t∈ts,P.readableRec t=true∧t<P.types.size)→
  DataW.TrodAll enc P W 0 (fun _=>true) true ts vs ds ps→(∀x∈ps,x.block<W.heap.size)→DataW.TrodAll enc P W' 0 (fun b=>decide (b<W.heap.size)) true ts vs ds ps
 |[],[],[],_,_,h,_=>h
 |t::ts,_::vs,_::ds,_,hts,⟨p,q,h,hs,e⟩,hlt=>by
  subst e
  exact⟨p,q,Below.trod hl (hts t sI).1 (hts t sI).2 h hb (fun x hx=>hlt x (av _ hx)),
   rP hl hb (fun u hu=>hts u (by simp[hu])) hs (fun x hx=>hlt x (aA _ hx)),rfl⟩
theorem tu {H:Type} {enc:TypeId×Value→H} {P:Program} {W:World} {sp:Nat→Bool} {gs:List (DataW H)} {q:List MemPlace} (h:DataW.TrodVars enc P W sp [] gs q):gs=[]∧q=[]:=by
 cases gs with
 |nil=>exact⟨rfl,h⟩
 |cons g r=>exact absurd h (by intro h;cases h)
theorem law_post {H:Type} {enc:TypeId×Value→H} {f:Func} {s:ChangeSpec} {W W':World} {args:Array Value} {ds:List (DataW H)} {before:List MemPlace} {handsOn:Bool}
 (hv:s.vars=[]) (hf:s.fn H (ds++[])={results:=[.lit (.bool true)],args:=ds}) (hr:f.resultTypes.toList=[4])
 (hts: ∀t∈f.params.toList,Tryz.prog.readableRec t=true∧t<Tryz.prog.types.size) {apart:Bool}
 (hW:DataW.Whole enc Tryz.prog f.params.toList s.vars apart W args.toList ds [] before) (hb:Below W.heap.size W W') (fresh:Bool):
 s.post enc Tryz.prog f apart fresh handsOn false W args (.bool true) W':=by
 have hW':=hW
 obtain⟨p,q,hA,hV,rfl,_,_⟩:=hW
 rw[hv] at hV
 obtain⟨_,rfl⟩:=tu hV
 have hrs:f.resultTypes.size=1:=by rw[←Array.length_toList,hr];rfl
 refine⟨ds,[],p++[],[],p,[],hW',?_,?_,?_,hb.frame _,fun h=>by cases h⟩
 ·rw[hf,hr,hrs]
  exact trodAll_mk1 (shut_bool fM true)
 ·rw[hf]
  exact rP kR hb hts hA (fun x hx=>by simpa using hW'.lt x (by simpa using hx))
 ·rw[hf,hv];rfl
end
section
open Go.RowKit Go.ChangeShapes
def lS:List (String×List UInt8):=(Rows.slabActsRow.laid.drop 1).map fun x=>(x.1,sentT x.2)
theorem Hw:(Rows.slabActsRow.laid.filter fun x=>x.2.handleName?.isNone)=lS.map fun x=>(x.1,sentD x.2):=kR
theorem Hy:(Rows.slabActsRow.laid.filter fun x=>x.2.handleName?.isSome)=Rows.slabActsRow.laid.take 1:=kR
def hd1:String×DataW Unit:=Rows.slabActsRow.laid.headD ("",.nil)
theorem take1:Rows.slabActsRow.laid.take 1=[hd1]:=rfl
def hName:List UInt8:=[101,114,114,111,114]
theorem typ_name (x:String×DataW Unit) (hx:x∈Rows.slabActsRow.laid.take 1):x.2.funcsIn?=none∧x.2.handleName?=some hName∧Tryz.prog.globalNamed x.1=some 10:=by
 rw[take1] at hx
 obtain rfl:=bL.1 hx
 exact⟨kR,kR,kR⟩
theorem one_type:((List.range Tryz.prog.types.size).filter fun t=>Tryz.prog.rowNamed t hName)=[33]:=kR
theorem zW {W:World} (h:laidMetH Tryz.prog Rows.slabActsRow.laid W): ∃ev,sS W.heap.size ev W:=by
 have h':laidMet Tryz.prog (lS.map fun x=>(x.1,sentD x.2)) W∧handlesMet Tryz.prog (Rows.slabActsRow.laid.take 1) W:=by
  unfold laidMetH at h
  rw[Hy,Hw] at h
  exact h
 obtain⟨hS,hH⟩:=h'
 obtain⟨al,h1,h2,h3⟩:=sents_of lS kR hS
 have htyp:W.cell? ⟨10,0,none⟩=some (.iface 391 (.agg #[.pointer (some ⟨11,33,none⟩)])):=by
  have hx:hd1∈Rows.slabActsRow.laid.take 1:=by rw[take1];exact bL.2 rfl
  obtain⟨n1,n2,n3⟩:=typ_name _ hx
  have:=hH _ hx
  rw[n1] at this
  obtain⟨name,u,ty,e1,e2,e3,e4,e5⟩:=this
  rw[n2] at e1
  obtain rfl:=aH e1
  have hm:ty∈(List.range Tryz.prog.types.size).filter fun t=>Tryz.prog.rowNamed t hName:=List.mem_filter.2 ⟨fI.2 e3,e4⟩
  rw[one_type] at hm
  obtain rfl:=bL.1 hm
  have hh:typeHandle Tryz.prog 33= .pointer (some ⟨11,33,none⟩):=kR
  rw[hh] at e5
  have hu:u=391:=by
   have e6:=e2.symm
   have: ∀{y:Option TypeId},y=some 391→some u=y→u=391:=fun a b=>aH (b.trans a)
   exact this kR e6
  subst hu
  simpa using World.var?_cell n3 e5 0
 match al,h1,h2,h3 with
 |[a1,a2,a3,a4,a5,a6,a7,a8,a9,a10],_,h2,h3=>
  have g: ∀(i:Nat),1≤i→i≤10→∃x a,lS[i-1]?=some x∧[a1,a2,a3,a4,a5,a6,a7,a8,a9,a10][i-1]?=some a∧Tryz.prog.globalNamed x.1=some (errG i):=by
   intro i i1 i2
   match i,i1,i2 with
   |1,_,_=>exact⟨_,_,rfl,rfl,kR⟩
   |2,_,_=>exact⟨_,_,rfl,rfl,kR⟩
   |3,_,_=>exact⟨_,_,rfl,rfl,kR⟩
   |4,_,_=>exact⟨_,_,rfl,rfl,kR⟩
   |5,_,_=>exact⟨_,_,rfl,rfl,kR⟩
   |6,_,_=>exact⟨_,_,rfl,rfl,kR⟩
   |7,_,_=>exact⟨_,_,rfl,rfl,kR⟩
   |8,_,_=>exact⟨_,_,rfl,rfl,kR⟩
   |9,_,_=>exact⟨_,_,rfl,rfl,kR⟩
   |10,_,_=>exact⟨_,_,rfl,rfl,kR⟩
  generalize hl:[a1,a2,a3,a4,a5,a6,a7,a8,a9,a10]=L at*
  let ev:Nat→Addr:=fun i=>L.getD (i-1) default
  have hev: ∀i,1≤i→i≤10→L[i-1]?=some (ev i):=by
   intro i i1 i2
   obtain⟨x,a,_,hb,_⟩:=g i i1 i2
   show L[i-1]?=some (L.getD (i-1) default)
   rw[dI,hb];rfl
  have hcell: ∀i,1≤i→i≤10→W.cell? ⟨errG i,0,none⟩=some (jB ev i):=by
   intro i i1 i2
   obtain⟨x,a,ha,hb,hg⟩:=g i i1 i2
   have e:a=ev i:=aH (hb.symm.trans (hev i i1 i2))
   subst e
   have:=World.var?_cell hg (h2 _ x _ ha hb).1 0
   rw[this]
   obtain⟨j,rfl⟩: ∃j,i=j+1:=⟨i-1,om⟩
   rfl
  have hrow: ∀i,1≤i→i≤10→∃c t,W.heap[(ev i).block]?=some (.cells c t (0,0)):=by
   intro i i1 i2
   obtain⟨x,a,ha,hb,hg⟩:=g i i1 i2
   have e:a=ev i:=aH (hb.symm.trans (hev i i1 i2))
   subst e
   exact(h2 _ x _ ha hb).2
  refine⟨ev,aI _,fun i i1 i2=>lt_of_cell (hcell i i1 i2),hcell,?_,hrow,fun i i1 i2=> ?_,lt_of_cell htyp,htyp⟩
  ·intro i j i1 i2 j1 j2 he
   have hi:=hev i i1 i2
   have hj:=hev j j1 j2
   rcases fH i j with hlt|rfl|hlt
   ·exfalso
    have:=bT.1 h3 (i-1) (j-1) (aj.1 hi).1 (aj.1 hj).1 om
    rw[(aj.1 hi).2,(aj.1 hj).2] at this
    exact this he
   ·rfl
   ·exfalso
    have:=bT.1 h3 (j-1) (i-1) (aj.1 hj).1 (aj.1 hi).1 om
    rw[(aj.1 hi).2,(aj.1 hj).2] at this
    exact this he.symm
  ·obtain⟨c,t,hr⟩:=hrow i i1 i2
   exact Hu hr
end
end Go.Proofs.YtdcbhlcbiokbeaaGreatDoor
