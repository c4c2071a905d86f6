/- Lemmas and contracts for the claim's last text: RDGive, AsZone. -/
import Derived.Test.YtdcbhlcbiokbeaaGreatDoorMa01
import Derived.Test.YtdcbhlcbiokbeaaGreatDoorMa04
import Derived.Test.YtdcbhlcbiokbeaaGreatDoorMa14
import Derived.Test.YtdcbhlcbiokbeaaGreatDoorMa15
import Derived.Test.YtdcbhlcbiokbeaaGreatDoorMa20
set_option linter.unusedSimpArgs false
set_option linter.unusedVariables false
set_option maxHeartbeats 16000000
set_option maxRecDepth 100000
namespace Go.Proofs.YtdcbhlcbiokbeaaGreatDoor
section
open Go.RowKit Go.Maps
attribute [local go_sem ↓] aW aX
section
variable {X X' Y S M M' F G:List Nat} {w w' w0 wp W2 W:World} {ev:Nat→Addr} {pd gh pc pm gN e:Nat} {mn lw hi:Int} {O:List (List Int)} {v v' vp vp':Value} {A A':SA} {V V':HV} {U U':List Value} {d d' dp:De} {c c':Ca}
theorem RD.fin {k hb:Nat} {u pb:Value} {l' lo:List Ob} {r:Value} (h0:RD X' wp pd gh pc pm gN e mn lw hi O M v A V vp' U' dp) (hk:k<dp.H.length) (k1:Keep [pd] w wp) (k2:Keep [hb] wp W2) (hb1:hb∈X') (hb2:hb∉rds pd gh pc pm gN A M) (hb3:w.heap.size≤hb)
 (x1: ∀x∈X,x∈X') (x2: ∀x∈X',x∈X∨w.heap.size≤x) (x3: ∀x∈X',x<wp.heap.size) (ru:j5 X' W2 u l') (ro:j5 X' wp pb lo) (hW:W=(W2.setCell ⟨gh,k*2,none⟩ u).setCell ⟨gh,k*2+1,none⟩ pb):
 iY X pd gh pc pm gN e mn lw hi O M A w ⟨dp.c,dp.H.set k (l',lo),dp.P⟩ r (.returned r) W:=by
 have hvl:k<V.length:=by rw[h0.b.hl];exact hk
 have h2:=h0.keep k2 (fun s q=>by simp at q;subst q;exact .inl ⟨hb1,hb2⟩)
 have ro2:=ro.keep k2 (fun s q=>by simp at q;subst q;exact .inl hb1)
 have kk:Keep [gh] W2 W:=by rw[hW];exact((Keep.refl _ _).setCell (p:=⟨gh,k*2,none⟩) (.inl sI) _).setCell (p:=⟨gh,k*2+1,none⟩) (.inl sI) _
 have lo':=zP h2.b.hs hvl u pb
 rw[←hW] at lo'
 have hcd:=h2.oF k (p':=(u,pb)) (h':=(l',lo)) hk ru ro2 kk lo'
 have K:Keep [pd,gh] w W:=((k1.mono (S':=[pd,gh]) (fun s q=>by simp at q;subst q;simp)).trans k2 (fun s q=>by simp at q;subst q;exact .inr hb3)).trans kk (fun s q=>by simp at q;subst q;exact .inl sI)
 refine⟨rfl,X',M,v,A,_,vp',U',hcd,K.mono (fun s q=> ?_),x1,x2,fun x q=>aF (x3 x q) (bN k2.size kk.size),fun y q=>.inl q⟩
 simp at q
 rcases q with rfl|rfl
 ·exact aD ..
 ·exact ak _ (aD ..)
theorem DF (k:Int) (o:Ob) (h:RD X w pd gh pc pm gN e mn lw hi O M v A V vp U d) (hX: ∀x∈X,x<w.heap.size) (hk:jI d k=none):
 Calls Tryz.prog 40 #[.pointer (some ⟨pd,0,none⟩),.int .i64 k,.agg #[.int .i64 o.1,.int .i64 o.2]] w (iY X pd gh pc pm gN e mn lw hi O M A w (iU e d k o).1 (.int .i64 (iU e d k o).2)):=by
 have ed:iU e d k o=(d,2):=by unfold iU;rw[hk]
 rw[ed]
 have b1:Below w.heap.size w (w.alloc (.cells #[.int .i64 o.1,.int .i64 o.2] 49)):=iB
 have IW0:=(h.below b1).worker k
 rw[decide_eq_false (show¬(0≤k∧k<d.H.length) from fun q=>by have:=nZ hk;omega)] at IW0
 have IW:=ah IW0
 have FIN:Hid (∀W,Below w.heap.size w W→iY X pd gh pc pm gN e mn lw hi O M A w d (.int .i64 2) (.returned (.int .i64 2)) W):=fun W b=>iY.here hX (h.below b) (Keep.of (S:=[]) b) (fun s q=>by cases q)
 clear h hk b1 IW0
 go_enter Tryz.func40,iw
 go_wp2_with fail
 refine IW.out.mono ?_
 rintro r w1 ⟨rfl,rfl⟩
 clear IW
 go_wp2
 go_ret
 exact FIN.out _ iB
theorem zS (k:Nat) (o:Ob) (h:RD X w pd gh pc pm gN e mn lw hi O M v A V vp U d) (hI:jY e d) (hX: ∀x∈X,x<w.heap.size) (hk:k<d.H.length) (ho:vB e d o=false):
 Calls Tryz.prog 40 #[.pointer (some ⟨pd,0,none⟩),.int .i64 k,.agg #[.int .i64 o.1,.int .i64 o.2]] w (iY X pd gh pc pm gN e mn lw hi O M A w (iU e d k o).1 (.int .i64 (iU e d k o).2)):=by
 have ed:iU e d k o=(d,9):=by unfold iU;rw[jo (au hk)];simp only[ho];rfl
 rw[ed]
 obtain⟨wa,hwa⟩: ∃wa,wa=w.alloc (.cells #[.int .i64 o.1,.int .i64 o.2] 49):=⟨_,rfl⟩
 have b1:Below w.heap.size w wa:=by rw[hwa];exact iB
 have LO:=ah (show iy wa w.heap.size [.int .i64 o.1,.int .i64 o.2] from by rw[hwa];exact iy.mk_ w [.int .i64 o.1,.int .i64 o.2] 49 rfl)
 have IW0:=(h.below b1).worker k
 rw[decide_eq_true (show 0≤(k:Int)∧(k:Int)<d.H.length from om)] at IW0
 have IW:=ah IW0
 have IO0:=uh o (h.below b1) hI
 rw[ho] at IO0
 have IO:=ah IO0
 have B1:=ah b1
 have FIN:Hid (∀W,Below w.heap.size w W→iY X pd gh pc pm gN e mn lw hi O M A w d (.int .i64 9) (.returned (.int .i64 9)) W):=fun W b=>iY.here hX (h.below b) (Keep.of (S:=[]) b) (fun s q=>by cases q)
 have v0:=LO.out.c 0 _ rfl;have v1:=LO.out.c 1 _ rfl;have vl:=LO.out.lt
 clear h hI hk b1 IW0 IO0 ho
 go_enter Tryz.func40,iw
 go_wp2_with fail
 rw[←hwa]
 clear hwa
 refine IW.out.mono ?_
 rintro r w1 ⟨rfl,rfl⟩
 clear IW
 go_wp2_with fail
 refine IO.out.mono ?_
 rintro r w2 ⟨rfl,hb2⟩
 have B2:=ah (B1.out.trans (hb2.mono B1.out.size))
 clear IO hb2 v0 v1
 go_wp2
 go_ret
 exact FIN.out _ B2.out
theorem rdgive_1 (k:Nat) (o:Ob) (h:RD X w pd gh pc pm gN e mn lw hi O M v A V vp U d) (hI:jY e d) (hX: ∀x∈X,x<w.heap.size) {l1 l2:List Ob} (hk:d.H[k]?=some (l1,l2)) (h4:l1.length≠4) (ho:vB e d o=true):
 Calls Tryz.prog 40 #[.pointer (some ⟨pd,0,none⟩),.int .i64 k,.agg #[.int .i64 o.1,.int .i64 o.2]] w (iY X pd gh pc pm gN e mn lw hi O M A w (iU e d k o).1 (.int .i64 (iU e d k o).2)):=by
 have hkl:=(aj.1 hk).1
 have ef:jw (l1,l2) d.P=((l1,l2),d.P):=by unfold jw;rw[if_neg h4]
 have eg:iU e d k o=(⟨d.c,d.H.set k (l1++[o],l2),d.P⟩,0):=by unfold iU;rw[jo hk];simp only[ho,if_true,ef];rfl
 rw[eg]
 obtain⟨wa,hwa⟩: ∃wa,wa=w.alloc (.cells #[.int .i64 o.1,.int .i64 o.2] 49):=⟨_,rfl⟩
 have b1:Below w.heap.size w wa:=by rw[hwa];exact iB
 have LO:=ah (show iy wa w.heap.size [.int .i64 o.1,.int .i64 o.2] from by rw[hwa];exact iy.mk_ w [.int .i64 o.1,.int .i64 o.2] 49 rfl)
 have IW0:=(h.below b1).worker k
 rw[decide_eq_true (show 0≤(k:Int)∧(k:Int)<d.H.length from om)] at IW0
 have IW:=ah IW0
 have IO0:=uh o (h.below b1) hI
 rw[ho] at IO0
 have IO:=ah IO0
 have B1:=ah b1
 have hH4:=hI.hl
 have l4:=hI.h4 _ (aB hk)
 simp only at l4
 have pl:d.P.length≤65536:=by have:=(ji hI).1;have:=jy hI.c;omega
 have v0:=LO.out.c 0 _ rfl;have v1:=LO.out.c 1 _ rfl;have vl:=LO.out.lt
 have HH:=ah h;have HK:=ah hk;have HX:=ah hX;have HKL:=ah hkl
 obtain⟨nH,hnH⟩: ∃n,n=d.H.length:=⟨_,rfl⟩
 have ENH:=ah hnH
 rw[←hnH] at hkl hH4
 clear h hI hk b1 IW0 IO0 ho ef eg hnH hX
 go_enter Tryz.func40,iw
 go_wp2_with fail
 rw[←hwa]
 clear hwa
 refine IW.out.mono ?_
 rintro r w1 ⟨rfl,rfl⟩
 clear IW
 go_wp2_with fail
 refine IO.out.mono ?_
 rintro r w2 ⟨rfl,hb2⟩
 have B2:=ah (B1.out.trans (hb2.mono B1.out.size))
 have z2:=B2.out.size
 have LO2:=ah (LO.out.go hb2)
 obtain⟨p,hp,o1,o2,g0,g1,f0,f1,gl⟩:=(HH.out.below B2.out).hand HK.out
 obtain⟨⟨pa,pb⟩,rfl⟩: ∃q,q=p:=⟨_,rfl⟩
 obtain⟨qa,ca,e1,ka1,ka2⟩:=o1.isSlice
 obtain⟨qb,cb,e2,kb1,kb2⟩:=o2.isSlice
 simp only at e1 e2 g0 g1 hp o1 o2 ka1 kb1
 subst e1 e2
 have c1:=(HH.out.below B2.out).b.d.c 1 _ rfl;have cl:=(HH.out.below B2.out).b.d.lt
 rw[←ENH.out] at c1
 have hvl:k<V.length:=by rw[HH.out.b.hl];exact HKL.out
 have glw:gh<w.heap.size:=HH.out.b.hs.lt
 have plw:pd<w.heap.size:=HH.out.b.d.lt
 obtain⟨hbx,hhbx⟩: ∃hbx,hbx=w2.heap.size:=⟨_,rfl⟩
 have n1: ¬(gh=w2.heap.size):=om
 have n2: ¬(w2.heap.size=gh):=om
 have n3: ¬(pd=w2.heap.size):=om
 have n4: ¬(w2.heap.size=pd):=om
 have n5: ¬(w.heap.size=w2.heap.size):=by have:=LO2.out.lt;omega
 have NRD:Hid (w2.heap.size∉rds pd gh pc pm gN A M):=fun q=>by have:=(HH.out.below B2.out).lt _ q;omega
 have i0:(0:Int)≤(k:Int):=om
 have i1:(k:Int)<(nH:Int):=om
 have hp0:Hid (V[k]?=some (.slice qa l1.length ca,.slice qb l2.length cb)):=hp
 have HO1:=ah o1;have HO2:=ah o2
 obtain⟨m1,hm1⟩: ∃m,m=l1.length:=⟨_,rfl⟩
 obtain⟨m2,hm2⟩: ∃m,m=l2.length:=⟨_,rfl⟩
 rw[←hm1] at g0 h4 l4 ka1
 rw[←hm2] at g1 l4
 have HO1:Hid (j5 X w2 (.slice qa m1 ca) l1):=by have t:=HO1.out;rw[←hm1] at t;exact t
 have HO2:Hid (j5 X w2 (.slice qb m2 cb) l2):=by have t:=HO2.out;rw[←hm2] at t;exact t
 obtain⟨WA,hWA⟩: ∃WA,WA=w2.alloc (.cells #[.slice qa m1 ca,.slice qb m2 cb] 251):=⟨_,rfl⟩
 have bA:Below w2.heap.size w2 WA:=by rw[hWA];exact iB
 have zA:WA.heap.size=w2.heap.size+1:=by rw[hWA];simp
 have LH:=ah (show iy WA w2.heap.size [.slice qa m1 ca,.slice qb m2 cb] from by rw[hWA];exact iy.mk_ w2 [.slice qa m1 ca,.slice qb m2 cb] 251 rfl)
 have LOA:=ah (LO2.out.go bA)
 have BA:=ah (B2.out.trans (bA.mono z2))
 have rH: ∀y∈w2.heap.size::X,y∈X∨w.heap.size≤y:=fun y hy=>by
  rcases aC.1 hy with rfl|q
  ·exact .inr z2
  ·exact .inl q
 have RA:=ah ((HH.out.more (Y:=w2.heap.size::X) (fun x q=>ak _ q) rH).below BA.out)
 have vS: ∀y∈w2.heap.size::X,y∈X∨w2.heap.size≤y:=fun y hy=>by
  rcases aC.1 hy with rfl|q
  ·exact .inr (aI _)
  ·exact .inl q
 have RO1:=ah ((HO1.out.more vS).below bA)
 have RO2:=ah ((HO2.out.more vS).below bA)
 have X1:Hid (∀x∈X,x∈w2.heap.size::X):=fun x q=>ak _ q
 have X2:Hid (∀x∈w2.heap.size::X,x∈X∨w.heap.size≤x):=rH
 have X3:Hid (∀x∈w2.heap.size::X,x<WA.heap.size):=fun x q=>by
  rcases aC.1 q with rfl|q
  ·omega
  ·have:=HX.out x q;omega
 have LE0:Hid ((jc l1).length=m1*2):=by show _=_;simp[j6];try omega
 have OE:Hid (∀u∈jc l1,u.oneCell'=true):=mZ _
 have FIN:Hid (∀w5 q4 k4 W,Below WA.heap.size WA w5→w5.ownsRow WA.heap.size 49 2 (.slice q4 (m1+1) k4) (m1+1) (jc l1++[.int .i64 o.1,.int .i64 o.2])→W=(((w5.setCell ⟨w2.heap.size,0,none⟩ (.slice q4 (m1+1) k4)).setCell ⟨gh,k*2,none⟩ (.slice q4 (m1+1) k4)).setCell ⟨gh,k*2+1,none⟩ (.slice qb m2 cb)).drew→iY X pd gh pc pm gN e mn lw hi O M A w ⟨d.c,d.H.set k (l1++[o],l2),d.P⟩ (.int .i64 0) (.returned (.int .i64 0)) W):=fun w5 q4 k4 W b5 own hW=>by
  have k2:Keep [w2.heap.size] WA (w5.setCell ⟨w2.heap.size,0,none⟩ (.slice q4 (m1+1) k4)).drew:=((Keep.of b5).setCell (p:=⟨w2.heap.size,0,none⟩) (.inl sI) _).drew
  have ru0:j5 (w2.heap.size::X) w5 (.slice q4 (m1+1) k4) (l1++[o]):=by
   have e:m1+1=(l1++[o]).length:=by simp;try omega
   rw[←jS,e] at own
   rw[e]
   exact nG own (fun g hg q=>by have:=(own.lt g hg).1;have:=X3.out g q;omega)
  have ru:=ru0.keep (((Keep.refl [w2.heap.size] w5).setCell (p:=⟨w2.heap.size,0,none⟩) (.inl sI) (.slice q4 (m1+1) k4)).drew) (fun s q=>by simp at q;subst q;exact .inl (aD ..))
  exact RD.fin RA.out HKL.out (Keep.of BA.out) k2 (aD ..) NRD.out z2 X1.out X2.out X3.out ru RO2.out (hW.trans (by first|rfl|simp only[go_sem]|simp[go_sem]))
 have KP:Hid (∀w5,Below WA.heap.size WA w5→(w5.cell? ⟨w2.heap.size,0,none⟩=some (.slice qa m1 ca)∧w5.cell? ⟨w2.heap.size,1,none⟩=some (.slice qb m2 cb)∧w5.frozen? ⟨w2.heap.size,0,none⟩=false∧w2.heap.size<w5.heap.size)∧(w5.cell? ⟨w.heap.size,0,none⟩=some (.int .i64 o.1)∧w5.cell? ⟨w.heap.size,1,none⟩=some (.int .i64 o.2)∧w.heap.size<w5.heap.size)∧w5.cell? ⟨pd,1,none⟩=some (.slice (some ⟨gh,0,none⟩) nH nH)∧pd<w5.heap.size∧w5.frozen? ⟨gh,k*2,none⟩=false∧w5.frozen? ⟨gh,k*2+1,none⟩=false∧gh<w5.heap.size∧(∃u0,w5.cell? ⟨gh,k*2,none⟩=some u0)∧∃u1,w5.cell? ⟨gh,k*2+1,none⟩=some u1):=fun w5 b=>by
  have a:=LH.out.go b
  have y:=LOA.out.go b
  have R5:=RA.out.below b
  obtain⟨p5,_,_,_,g0,g1,f0,f1,gl5⟩:=R5.hand HK.out
  exact⟨⟨a.c 0 _ rfl,a.c 1 _ rfl,a.f 0 sI,a.lt⟩,⟨y.c 0 _ rfl,y.c 1 _ rfl,y.lt⟩,by rw[ENH.out];exact R5.b.d.c 1 _ rfl,R5.b.d.lt,f0,f1,gl5,⟨_,g0⟩,⟨_,g1⟩⟩
 have cf2:=(LOA.out.c 0 _ rfl)
 have ZW:Hid (w2.heap.size<WA.heap.size):=by show _<_;omega
 have S0:=ah (j5.srcO RO1.out).2
 have d4:decide ((m1:Int)=4)=false:=decide_eq_false om
 have HWA:=ah hWA
 clear hp hWA o1 o2 f0 f1 rH vS bA cf2 hm1 hm2 HO1 HO2 hp0 hb2 v0 v1 vl
 have u0:=LO2.out.c 0 _ rfl;have u1:=LO2.out.c 1 _ rfl;have ul:=LO2.out.lt
 go_wp2_with (first
  |(at_builtin;rw[←HWA.out];refine kS sH (base:=WA.heap.size) (v:=.slice none 0 0) (n:=0) (m:=m1) (xs:=[]) (ms:=jc l1) (p:=qa) rf (.tmp 57) (.tmp 59) rf rf rf (aR _ _ _ _) LE0.out S0.out OE.out om (aI _) ?_;intro q3 k3 w4 hown3 hg3 ug;have b3:Below WA.heap.size WA w4:=(aJ _ _).grown hg3 (aI _) (fun r hr=>by cases hr);rw[bO] at hown3 ug;rw[dZ] at hown3;obtain⟨⟨h0,h1,hf,hl⟩,⟨y0,y1,yl⟩,_⟩:=KP.out w4 b3;have HO3:=ah hown3;have HB3:=ah b3;clear hown3 hg3 ug b3)
  |(at_builtin;go_loud (refine nI sH (base:=WA.heap.size) (v:=.slice q3 m1 k3) (n:=m1) (ms:=[.int .i64 o.1,.int .i64 o.2]) (ad:=⟨w4.heap.size,0,none⟩) rf (.tmp 61) (.tmp 63) rf rf rf (HO3.out.alloc _) rfl (nN w4 (.int .i64 o.1) (.int .i64 o.2) 49) (nO _ _) om (by have:=HB3.out.size;simp;omega) ?_);intro q4 k4 w5 iK hg4 yu;have b5:Below WA.heap.size WA w5:=((HB3.out.alloc HB3.out.size (.cells #[.int .i64 o.1,.int .i64 o.2] 49))).grown hg4 (by have:=HB3.out.size;simp;omega) (fun r hr=>(HO3.out.lt r hr).1);obtain⟨⟨h0',h1',hf',hl'⟩,_,p1,pl1,fg0,fg1,gl5,⟨u0',cg0⟩,⟨u1',cg1⟩⟩:=KP.out w5 b5;have FF:=ah (FIN.out w5 q4 k4);have HO4:=ah iK;have HB5:=ah b5;clear iK hg4 yu b5))
 refine jR 7 kR kR ?_
 simp only[aV,bB,aS,bq]
 repeat still_step
 refine wpStill_nil ?_
 go_wp2
 go_ret
 exact FF.out _ HB5.out HO4.out rfl
theorem rdgive_2 (k:Nat) (o:Ob) (h:RD X w pd gh pc pm gN e mn lw hi O M v A V vp U d) (hI:jY e d) (hX: ∀x∈X,x<w.heap.size) {l1 l2:List Ob} (hk:d.H[k]?=some (l1,[])) (h4:l1.length=4) (ho:vB e d o=true):
 Calls Tryz.prog 40 #[.pointer (some ⟨pd,0,none⟩),.int .i64 k,.agg #[.int .i64 o.1,.int .i64 o.2]] w (iY X pd gh pc pm gN e mn lw hi O M A w (iU e d k o).1 (.int .i64 (iU e d k o).2)):=by
 have hkl:=(aj.1 hk).1
 have ef:jw (l1,[]) d.P=(([],l1),d.P):=by unfold jw;rw[if_pos h4,if_pos rfl]
 have eg:iU e d k o=(⟨d.c,d.H.set k ([]++[o],l1),d.P⟩,0):=by unfold iU;rw[jo hk];simp only[ho,if_true,ef];rfl
 rw[eg]
 obtain⟨wa,hwa⟩: ∃wa,wa=w.alloc (.cells #[.int .i64 o.1,.int .i64 o.2] 49):=⟨_,rfl⟩
 have b1:Below w.heap.size w wa:=by rw[hwa];exact iB
 have LO:=ah (show iy wa w.heap.size [.int .i64 o.1,.int .i64 o.2] from by rw[hwa];exact iy.mk_ w [.int .i64 o.1,.int .i64 o.2] 49 rfl)
 have IW0:=(h.below b1).worker k
 rw[decide_eq_true (show 0≤(k:Int)∧(k:Int)<d.H.length from om)] at IW0
 have IW:=ah IW0
 have IO0:=uh o (h.below b1) hI
 rw[ho] at IO0
 have IO:=ah IO0
 have B1:=ah b1
 have hH4:=hI.hl
 have l4:=hI.h4 _ (aB hk)
 simp only at l4
 have pl:d.P.length≤65536:=by have:=(ji hI).1;have:=jy hI.c;omega
 have v0:=LO.out.c 0 _ rfl;have v1:=LO.out.c 1 _ rfl;have vl:=LO.out.lt
 have HH:=ah h;have HK:=ah hk;have HX:=ah hX;have HKL:=ah hkl
 obtain⟨nH,hnH⟩: ∃n,n=d.H.length:=⟨_,rfl⟩
 have ENH:=ah hnH
 rw[←hnH] at hkl hH4
 clear h hI hk b1 IW0 IO0 ho ef eg hnH hX
 go_enter Tryz.func40,iw
 go_wp2_with fail
 rw[←hwa]
 clear hwa
 refine IW.out.mono ?_
 rintro r w1 ⟨rfl,rfl⟩
 clear IW
 go_wp2_with fail
 refine IO.out.mono ?_
 rintro r w2 ⟨rfl,hb2⟩
 have B2:=ah (B1.out.trans (hb2.mono B1.out.size))
 have z2:=B2.out.size
 have LO2:=ah (LO.out.go hb2)
 obtain⟨p,hp,o1,o2,g0,g1,f0,f1,gl⟩:=(HH.out.below B2.out).hand HK.out
 obtain⟨⟨pa,pb⟩,rfl⟩: ∃q,q=p:=⟨_,rfl⟩
 obtain⟨qa,ca,e1,ka1,ka2⟩:=o1.isSlice
 obtain⟨qb,cb,e2,kb1,kb2⟩:=o2.isSlice
 simp only at e1 e2 g0 g1 hp o1 o2 ka1 kb1
 subst e1 e2
 have c1:=(HH.out.below B2.out).b.d.c 1 _ rfl;have cl:=(HH.out.below B2.out).b.d.lt
 rw[←ENH.out] at c1
 have hvl:k<V.length:=by rw[HH.out.b.hl];exact HKL.out
 have glw:gh<w.heap.size:=HH.out.b.hs.lt
 have plw:pd<w.heap.size:=HH.out.b.d.lt
 obtain⟨hbx,hhbx⟩: ∃hbx,hbx=w2.heap.size:=⟨_,rfl⟩
 have n1: ¬(gh=w2.heap.size):=om
 have n2: ¬(w2.heap.size=gh):=om
 have n3: ¬(pd=w2.heap.size):=om
 have n4: ¬(w2.heap.size=pd):=om
 have n5: ¬(w.heap.size=w2.heap.size):=by have:=LO2.out.lt;omega
 have NRD:Hid (w2.heap.size∉rds pd gh pc pm gN A M):=fun q=>by have:=(HH.out.below B2.out).lt _ q;omega
 have i0:(0:Int)≤(k:Int):=om
 have i1:(k:Int)<(nH:Int):=om
 have hp0:Hid (V[k]?=some (.slice qa l1.length ca,.slice qb ([]:List Ob).length cb)):=hp
 have HO1:=ah o1;have HO2:=ah o2
 have HO1:Hid (j5 X w2 (.slice qa 4 ca) l1):=by have t:=HO1.out;rw[h4] at t;exact t
 have HO2:Hid (j5 X w2 (.slice qb 0 cb) []):=HO2.out
 rw[h4] at g0 ka1
 rw[show([]:List Ob).length=0 from rfl] at g1
 obtain⟨WA,hWA⟩: ∃WA,WA=w2.alloc (.cells #[.slice qb 0 cb,.slice qa 4 ca] 251):=⟨_,rfl⟩
 have bA:Below w2.heap.size w2 WA:=by rw[hWA];exact iB
 have zA:WA.heap.size=w2.heap.size+1:=by rw[hWA];simp
 have LH:=ah (show iy WA w2.heap.size [.slice qb 0 cb,.slice qa 4 ca] from by rw[hWA];exact iy.mk_ w2 [.slice qb 0 cb,.slice qa 4 ca] 251 rfl)
 have LOA:=ah (LO2.out.go bA)
 have BA:=ah (B2.out.trans (bA.mono z2))
 have rH: ∀y∈w2.heap.size::X,y∈X∨w.heap.size≤y:=fun y hy=>by
  rcases aC.1 hy with rfl|q
  ·exact .inr z2
  ·exact .inl q
 have RA:=ah ((HH.out.more (Y:=w2.heap.size::X) (fun x q=>ak _ q) rH).below BA.out)
 have vS: ∀y∈w2.heap.size::X,y∈X∨w2.heap.size≤y:=fun y hy=>by
  rcases aC.1 hy with rfl|q
  ·exact .inr (aI _)
  ·exact .inl q
 have RO1:=ah ((HO1.out.more vS).below bA)
 have RO2:=ah ((HO2.out.more vS).below bA)
 have X1:Hid (∀x∈X,x∈w2.heap.size::X):=fun x q=>ak _ q
 have X2:Hid (∀x∈w2.heap.size::X,x∈X∨w.heap.size≤x):=rH
 have X3:Hid (∀x∈w2.heap.size::X,x<WA.heap.size):=fun x q=>by
  rcases aC.1 q with rfl|q
  ·omega
  ·have:=HX.out x q;omega
 have LE0:Hid ((jc ([]:List Ob)).length=0*2):=by show _=_;simp[j6];try omega
 have OE:Hid (∀u∈jc ([]:List Ob),u.oneCell'=true):=mZ _
 have FIN:Hid (∀w5 q4 k4 W,Below WA.heap.size WA w5→w5.ownsRow WA.heap.size 49 2 (.slice q4 (0+1) k4) (0+1) (jc ([]:List Ob)++[.int .i64 o.1,.int .i64 o.2])→W=(((w5.setCell ⟨w2.heap.size,0,none⟩ (.slice q4 (0+1) k4)).setCell ⟨gh,k*2,none⟩ (.slice q4 (0+1) k4)).setCell ⟨gh,k*2+1,none⟩ (.slice qa 4 ca)).drew→iY X pd gh pc pm gN e mn lw hi O M A w ⟨d.c,d.H.set k ([]++[o],l1),d.P⟩ (.int .i64 0) (.returned (.int .i64 0)) W):=fun w5 q4 k4 W b5 own hW=>by
  have k2:Keep [w2.heap.size] WA (w5.setCell ⟨w2.heap.size,0,none⟩ (.slice q4 (0+1) k4)).drew:=((Keep.of b5).setCell (p:=⟨w2.heap.size,0,none⟩) (.inl sI) _).drew
  have ru0:j5 (w2.heap.size::X) w5 (.slice q4 (0+1) k4) (([]:List Ob)++[o]):=by
   have e:0+1=(([]:List Ob)++[o]).length:=by simp;try omega
   rw[←jS,e] at own
   rw[e]
   exact nG own (fun g hg q=>by have:=(own.lt g hg).1;have:=X3.out g q;omega)
  have ru:=ru0.keep (((Keep.refl [w2.heap.size] w5).setCell (p:=⟨w2.heap.size,0,none⟩) (.inl sI) (.slice q4 (0+1) k4)).drew) (fun s q=>by simp at q;subst q;exact .inl (aD ..))
  exact RD.fin RA.out HKL.out (Keep.of BA.out) k2 (aD ..) NRD.out z2 X1.out X2.out X3.out ru RO1.out (hW.trans (by first|rfl|simp only[go_sem]|simp[go_sem]))
 have KP:Hid (∀w5,Below WA.heap.size WA w5→(w5.cell? ⟨w2.heap.size,0,none⟩=some (.slice qb 0 cb)∧w5.cell? ⟨w2.heap.size,1,none⟩=some (.slice qa 4 ca)∧w5.frozen? ⟨w2.heap.size,0,none⟩=false∧w2.heap.size<w5.heap.size)∧(w5.cell? ⟨w.heap.size,0,none⟩=some (.int .i64 o.1)∧w5.cell? ⟨w.heap.size,1,none⟩=some (.int .i64 o.2)∧w.heap.size<w5.heap.size)∧w5.cell? ⟨pd,1,none⟩=some (.slice (some ⟨gh,0,none⟩) nH nH)∧pd<w5.heap.size∧w5.frozen? ⟨gh,k*2,none⟩=false∧w5.frozen? ⟨gh,k*2+1,none⟩=false∧gh<w5.heap.size∧(∃u0,w5.cell? ⟨gh,k*2,none⟩=some u0)∧∃u1,w5.cell? ⟨gh,k*2+1,none⟩=some u1):=fun w5 b=>by
  have a:=LH.out.go b
  have y:=LOA.out.go b
  have R5:=RA.out.below b
  obtain⟨p5,_,_,_,g0,g1,f0,f1,gl5⟩:=R5.hand HK.out
  exact⟨⟨a.c 0 _ rfl,a.c 1 _ rfl,a.f 0 sI,a.lt⟩,⟨y.c 0 _ rfl,y.c 1 _ rfl,y.lt⟩,by rw[ENH.out];exact R5.b.d.c 1 _ rfl,R5.b.d.lt,f0,f1,gl5,⟨_,g0⟩,⟨_,g1⟩⟩
 have cf2:=(LOA.out.c 0 _ rfl)
 have ZW:Hid (w2.heap.size<WA.heap.size):=by show _<_;omega
 have S0:=ah (j5.srcO RO2.out).2
 have HWA:=ah hWA
 clear hp hWA o1 o2 f0 f1 rH vS bA cf2 h4 l4 HO1 HO2 hp0 hb2 v0 v1 vl
 have u0:=LO2.out.c 0 _ rfl;have u1:=LO2.out.c 1 _ rfl;have ul:=LO2.out.lt
 go_wp2_with (first
  |(at_builtin;rw[←HWA.out];refine kS sH (base:=WA.heap.size) (v:=.slice none 0 0) (n:=0) (m:=0) (xs:=[]) (ms:=jc ([]:List Ob)) (p:=qb) rf (.tmp 57) (.tmp 59) rf rf rf (aR _ _ _ _) LE0.out S0.out OE.out om (aI _) ?_;intro q3 k3 w4 hown3 hg3 ug;have b3:Below WA.heap.size WA w4:=(aJ _ _).grown hg3 (aI _) (fun r hr=>by cases hr);rw[bO] at hown3 ug;rw[dZ] at hown3;obtain⟨⟨h0,h1,hf,hl⟩,⟨y0,y1,yl⟩,_⟩:=KP.out w4 b3;have HO3:=ah hown3;have HB3:=ah b3;clear hown3 hg3 ug b3)
  |(at_builtin;go_loud (refine nI sH (base:=WA.heap.size) (v:=.slice q3 0 k3) (n:=0) (ms:=[.int .i64 o.1,.int .i64 o.2]) (ad:=⟨w4.heap.size,0,none⟩) rf (.tmp 61) (.tmp 63) rf rf rf (HO3.out.alloc _) rfl (nN w4 (.int .i64 o.1) (.int .i64 o.2) 49) (nO _ _) om (by have:=HB3.out.size;simp;omega) ?_);intro q4 k4 w5 iK hg4 yu;have b5:Below WA.heap.size WA w5:=((HB3.out.alloc HB3.out.size (.cells #[.int .i64 o.1,.int .i64 o.2] 49))).grown hg4 (by have:=HB3.out.size;simp;omega) (fun r hr=>(HO3.out.lt r hr).1);obtain⟨⟨h0',h1',hf',hl'⟩,_,p1,pl1,fg0,fg1,gl5,⟨u0',cg0⟩,⟨u1',cg1⟩⟩:=KP.out w5 b5;have FF:=ah (FIN.out w5 q4 k4);have HO4:=ah iK;have HB5:=ah b5;clear iK hg4 yu b5))
 refine jR 7 kR kR ?_
 simp only[aV,bB,aS,bq]
 repeat still_step
 refine wpStill_nil ?_
 go_wp2
 go_ret
 exact FF.out _ HB5.out HO4.out rfl
theorem RD.push {n:Nat} {u:Value} {l1:List Ob} {WA w4:World} {q4:Option Addr} {k4:Nat} (h:RD X' WA pd gh pc pm gN e mn lw hi O M v A V vp U d) (b4:Below WA.heap.size WA w4) (own:w4.ownsRow WA.heap.size 79 1 (.slice q4 (n+1) k4) (n+1) (U++[u])) (hn:n=d.P.length) (ru:j5 X' WA u l1) (hX: ∀x∈X',x<WA.heap.size) (hwp:wp=w4.setCell ⟨pd,2,none⟩ (.slice q4 (n+1) k4)):
 RD X' wp pd gh pc pm gN e mn lw hi O M v A V (.slice q4 (n+1) k4) (U++[u]) ⟨d.c,d.H,d.P++[l1]⟩:=by
 have h4:=h.below b4
 have hul:=h.b.ul
 have el:(U++[u]).length=n+1:=by simp;omega
 have kk:Keep [pd] w4 wp:=by rw[hwp];exact(Keep.refl _ _).setCell (p:=⟨pd,2,none⟩) (.inl sI) _
 have hd:=h4.b.d.store 2 (.slice q4 (n+1) k4) sI
 rw[←hwp] at hd
 refine h4.GD kk hd (lN (base:=WA.heap.size) (by rw[el];exact own) (fun x hx g hg r=>by have:=(own.lt g hg).1;have:=hX x hx;omega)) (by simp;omega) (fun i u' m' hu hm=> ?_)
 by_cases q:i<U.length
 ·rw[bE q] at hu
  rw[bE om] at hm
  exact h4.b.po i u' m' hu hm
 ·have hi1:=(aj.1 hu).1
  have:i=U.length:=by rw[el] at hi1;omega
  subst this
  rw[bK (aI _)] at hu
  rw[hul,bK (aI _)] at hm
  simp at hu hm
  subst hu hm
  exact ru.below b4
theorem rdgive_3 (k:Nat) (o:Ob) (h:RD X w pd gh pc pm gN e mn lw hi O M v A V vp U d) (hI:jY e d) (hX: ∀x∈X,x<w.heap.size) {l1 l2:List Ob} (hk:d.H[k]?=some (l1,l2)) (h4:l1.length=4) (hne:l2≠[]) (ho:vB e d o=true):
 Calls Tryz.prog 40 #[.pointer (some ⟨pd,0,none⟩),.int .i64 k,.agg #[.int .i64 o.1,.int .i64 o.2]] w (iY X pd gh pc pm gN e mn lw hi O M A w (iU e d k o).1 (.int .i64 (iU e d k o).2)):=by
 have hkl:=(aj.1 hk).1
 have ef:jw (l1,l2) d.P=(([],l2),d.P++[l1]):=by unfold jw;rw[if_pos h4,if_neg hne]
 have eg:iU e d k o=(⟨d.c,d.H.set k ([]++[o],l2),d.P++[l1]⟩,0):=by unfold iU;rw[jo hk];simp only[ho,if_true,ef];rfl
 rw[eg]
 obtain⟨wa,hwa⟩: ∃wa,wa=w.alloc (.cells #[.int .i64 o.1,.int .i64 o.2] 49):=⟨_,rfl⟩
 have b1:Below w.heap.size w wa:=by rw[hwa];exact iB
 have LO:=ah (show iy wa w.heap.size [.int .i64 o.1,.int .i64 o.2] from by rw[hwa];exact iy.mk_ w [.int .i64 o.1,.int .i64 o.2] 49 rfl)
 have IW0:=(h.below b1).worker k
 rw[decide_eq_true (show 0≤(k:Int)∧(k:Int)<d.H.length from om)] at IW0
 have IW:=ah IW0
 have IO0:=uh o (h.below b1) hI
 rw[ho] at IO0
 have IO:=ah IO0
 have B1:=ah b1
 have hH4:=hI.hl
 have l4:=hI.h4 _ (aB hk)
 simp only at l4
 have pl:d.P.length≤16384:=by have:=(ji hI).1;have:=jy hI.c;omega
 obtain⟨qp,kp,evp,kp1,kp2,_⟩:=h.pile
 subst evp
 unfold maxLen at kp2
 have v0:=LO.out.c 0 _ rfl;have v1:=LO.out.c 1 _ rfl;have vl:=LO.out.lt
 have HH:=ah h;have HK:=ah hk;have HX:=ah hX;have HKL:=ah hkl
 obtain⟨nH,hnH⟩: ∃n,n=d.H.length:=⟨_,rfl⟩
 have ENH:=ah hnH
 rw[←hnH] at hkl hH4
 clear h hI hk b1 IW0 IO0 ho ef eg hnH hX
 go_enter Tryz.func40,iw
 go_wp2_with fail
 rw[←hwa]
 clear hwa
 refine IW.out.mono ?_
 rintro r w1 ⟨rfl,rfl⟩
 clear IW
 go_wp2_with fail
 refine IO.out.mono ?_
 rintro r w2 ⟨rfl,hb2⟩
 have B2:=ah (B1.out.trans (hb2.mono B1.out.size))
 have z2:=B2.out.size
 have LO2:=ah (LO.out.go hb2)
 obtain⟨p,hp,o1,o2,g0,g1,f0,f1,gl⟩:=(HH.out.below B2.out).hand HK.out
 obtain⟨⟨pa,pb⟩,rfl⟩: ∃q,q=p:=⟨_,rfl⟩
 obtain⟨qa,ca,e1,ka1,ka2⟩:=o1.isSlice
 obtain⟨qb,cb,e2,kb1,kb2⟩:=o2.isSlice
 simp only at e1 e2 g0 g1 hp o1 o2 ka1 kb1
 subst e1 e2
 have c1:=(HH.out.below B2.out).b.d.c 1 _ rfl;have cl:=(HH.out.below B2.out).b.d.lt
 rw[←ENH.out] at c1
 have hvl:k<V.length:=by rw[HH.out.b.hl];exact HKL.out
 have glw:gh<w.heap.size:=HH.out.b.hs.lt
 have plw:pd<w.heap.size:=HH.out.b.d.lt
 obtain⟨hbx,hhbx⟩: ∃hbx,hbx=w2.heap.size:=⟨_,rfl⟩
 have n1: ¬(gh=w2.heap.size):=om
 have n2: ¬(w2.heap.size=gh):=om
 have n3: ¬(pd=w2.heap.size):=om
 have n4: ¬(w2.heap.size=pd):=om
 have n5: ¬(w.heap.size=w2.heap.size):=by have:=LO2.out.lt;omega
 have NRD:Hid (w2.heap.size∉rds pd gh pc pm gN A M):=fun q=>by have:=(HH.out.below B2.out).lt _ q;omega
 have i0:(0:Int)≤(k:Int):=om
 have i1:(k:Int)<(nH:Int):=om
 have hp0:Hid (V[k]?=some (.slice qa l1.length ca,.slice qb l2.length cb)):=hp
 have HO1:=ah o1;have HO2:=ah o2
 obtain⟨m2,hm2⟩: ∃m,m=l2.length:=⟨_,rfl⟩
 have HO1:Hid (j5 X w2 (.slice qa 4 ca) l1):=by have t:=HO1.out;rw[h4] at t;exact t
 have HO2:Hid (j5 X w2 (.slice qb m2 cb) l2):=by have t:=HO2.out;rw[←hm2] at t;exact t
 rw[h4] at g0 ka1
 rw[←hm2] at g1 kb1 l4
 have hm0:0<m2:=by rw[hm2];exact List.length_pos_iff.2 hne
 have hm4:m2≤4:=l4.2
 have d0:decide ((m2:Int)=0)=false:=decide_eq_false om
 have d0':(m2==0)=false:=by simp;omega
 obtain⟨WA,hWA⟩: ∃WA,WA=w2.alloc (.cells #[.slice qa 4 ca,.slice qb m2 cb] 251):=⟨_,rfl⟩
 have bA:Below w2.heap.size w2 WA:=by rw[hWA];exact iB
 have zA:WA.heap.size=w2.heap.size+1:=by rw[hWA];simp
 have LH:=ah (show iy WA w2.heap.size [.slice qa 4 ca,.slice qb m2 cb] from by rw[hWA];exact iy.mk_ w2 [.slice qa 4 ca,.slice qb m2 cb] 251 rfl)
 have LOA:=ah (LO2.out.go bA)
 have BA:=ah (B2.out.trans (bA.mono z2))
 have rH: ∀y∈w2.heap.size::X,y∈X∨w.heap.size≤y:=fun y hy=>by
  rcases aC.1 hy with rfl|q
  ·exact .inr z2
  ·exact .inl q
 have RA:=ah ((HH.out.more (Y:=w2.heap.size::X) (fun x q=>ak _ q) rH).below BA.out)
 have vS: ∀y∈w2.heap.size::X,y∈X∨w2.heap.size≤y:=fun y hy=>by
  rcases aC.1 hy with rfl|q
  ·exact .inr (aI _)
  ·exact .inl q
 have RO1:=ah ((HO1.out.more vS).below bA)
 have RO2:=ah ((HO2.out.more vS).below bA)
 have X1:Hid (∀x∈X,x∈w2.heap.size::X):=fun x q=>ak _ q
 have X2:Hid (∀x∈w2.heap.size::X,x∈X∨w.heap.size≤x):=rH
 have X3:Hid (∀x∈w2.heap.size::X,x<WA.heap.size):=fun x q=>by
  rcases aC.1 q with rfl|q
  ·omega
  ·have:=HX.out x q;omega
 obtain⟨nP,hnP⟩: ∃n,n=d.P.length:=⟨_,rfl⟩
 have ENP:=ah hnP
 have c2:=(HH.out.below B2.out).b.d.c 2 _ rfl
 rw[←hnP] at c2 kp1 pl
 have LU:Hid (U.length=nP):=by show _=_;rw[hnP];exact HH.out.b.ul
 have SU:Hid (rY WA qp U):=by have t:=RA.out.b.row;exact t.src
 have OU:Hid (∀u∈U,u.oneCell'=true):=fun u hu=>by
  obtain⟨i,hi⟩:=bR hu
  have il:=(aj.1 hi).1
  obtain⟨m,hm⟩: ∃m,d.P[i]?=some m:=⟨d.P[i]'(by rw[←HH.out.b.ul];exact il),au _⟩
  obtain⟨qq,cc,eq,_⟩:=(HH.out.b.po i u m hi hm).isSlice
  rw[eq];rfl
 have KP:Hid (∀w5,Below WA.heap.size WA w5→(w5.cell? ⟨w2.heap.size,0,none⟩=some (.slice qa 4 ca)∧w5.cell? ⟨w2.heap.size,1,none⟩=some (.slice qb m2 cb)∧w5.frozen? ⟨w2.heap.size,0,none⟩=false∧w2.heap.size<w5.heap.size)∧w5.cell? ⟨pd,2,none⟩=some (.slice qp nP kp)∧w5.frozen? ⟨pd,2,none⟩=false∧pd<w5.heap.size∧w5.cell? ⟨w.heap.size,0,none⟩=some (.int .i64 o.1)∧w5.cell? ⟨w.heap.size,1,none⟩=some (.int .i64 o.2)∧w.heap.size<w5.heap.size):=fun w5 b=>by
  have a:=LH.out.go b
  have y:=LOA.out.go b
  have R5:=RA.out.below b
  exact⟨⟨a.c 0 _ rfl,a.c 1 _ rfl,a.f 0 sI,a.lt⟩,by rw[ENP.out];exact R5.b.d.c 2 _ rfl,R5.b.d.f 2 sI,R5.b.d.lt,y.c 0 _ rfl,y.c 1 _ rfl,y.lt⟩
 have n6: ¬(pd=w.heap.size):=om
 have n7: ¬(w.heap.size=pd):=om
 have n8: ¬(w2.heap.size=w.heap.size):=fun q=>n5 q.symm
 have LE0:Hid ((jc ([]:List Ob)).length=0*2):=by show _=_;simp[j6];try omega
 have OE:Hid (∀u∈jc ([]:List Ob),u.oneCell'=true):=mZ _
 have S0:Hid (∀W,rY W none (jc ([]:List Ob))):=fun W=>.inl ⟨rfl,rfl⟩
 have MK:Hid (∀w4 q4 k4 WB,Below WA.heap.size WA w4→w4.ownsRow WA.heap.size 79 1 (.slice q4 (nP+1) k4) (nP+1) (U++[.slice qa 4 ca])→WB=(w4.setCell ⟨pd,2,none⟩ (.slice q4 (nP+1) k4)).setCell ⟨w2.heap.size,0,none⟩ (.slice none 0 0)→
  (WA.heap.size≤WB.heap.size∧∀w5,Below WB.heap.size WB w5→(w5.cell? ⟨w2.heap.size,0,none⟩=some (.slice none 0 0)∧w5.cell? ⟨w2.heap.size,1,none⟩=some (.slice qb m2 cb)∧w5.frozen? ⟨w2.heap.size,0,none⟩=false∧w2.heap.size<w5.heap.size)∧(w5.cell? ⟨w.heap.size,0,none⟩=some (.int .i64 o.1)∧w5.cell? ⟨w.heap.size,1,none⟩=some (.int .i64 o.2)∧w.heap.size<w5.heap.size)∧w5.cell? ⟨pd,1,none⟩=some (.slice (some ⟨gh,0,none⟩) nH nH)∧pd<w5.heap.size∧w5.frozen? ⟨gh,k*2,none⟩=false∧w5.frozen? ⟨gh,k*2+1,none⟩=false∧gh<w5.heap.size∧(∃u0,w5.cell? ⟨gh,k*2,none⟩=some u0)∧∃u1,w5.cell? ⟨gh,k*2+1,none⟩=some u1)∧
  ∀w5 q5 k5 W,Below WB.heap.size WB w5→w5.ownsRow WB.heap.size 49 2 (.slice q5 (0+1) k5) (0+1) (jc ([]:List Ob)++[.int .i64 o.1,.int .i64 o.2])→W=(((w5.setCell ⟨w2.heap.size,0,none⟩ (.slice q5 (0+1) k5)).setCell ⟨gh,k*2,none⟩ (.slice q5 (0+1) k5)).setCell ⟨gh,k*2+1,none⟩ (.slice qb m2 cb)).drew→iY X pd gh pc pm gN e mn lw hi O M A w ⟨d.c,d.H.set k ([]++[o],l2),d.P++[l1]⟩ (.int .i64 0) (.returned (.int .i64 0)) W):=fun w4 q4 k4 WB b4 own4 hWB=>by
  obtain⟨wp,hwp⟩: ∃wp,wp=w4.setCell ⟨pd,2,none⟩ (.slice q4 (nP+1) k4):=⟨_,rfl⟩
  have RP:=RA.out.push b4 own4 ENP.out RO1.out X3.out hwp
  rw[←hwp] at hWB
  have z4:=b4.size
  have kp4:Keep [pd] w4 wp:=by rw[hwp];exact(Keep.refl _ _).setCell (p:=⟨pd,2,none⟩) (.inl sI) _
  have kb:Keep [w2.heap.size] wp WB:=by rw[hWB];exact(Keep.refl _ _).setCell (p:=⟨w2.heap.size,0,none⟩) (.inl sI) _
  have lh:iy WB w2.heap.size [.slice none 0 0,.slice qb m2 cb]:=by rw[hWB];exact((LH.out.go b4).keep kp4 (by simpa using n4)).store 0 (.slice none 0 0) sI
  have lo:iy WB w.heap.size [.int .i64 o.1,.int .i64 o.2]:=((LOA.out.go b4).keep kp4 (by simp;omega)).keep kb (by simpa using n5)
  have RB:=RP.keep kb (fun s q=>by simp at q;subst q;exact .inl ⟨aD ..,NRD.out⟩)
  have zp:=kp4.size;have zb:=kb.size
  refine⟨⟨om,fun w5 b=> ?_⟩,fun w5 q5 k5 W b5 own hW=> ?_⟩
  ·have a:=lh.go b
   have y:=lo.go b
   have R5:=RB.below b
   obtain⟨p5,_,_,_,g0,g1,f0,f1,gl5⟩:=R5.hand HK.out
   exact⟨⟨a.c 0 _ rfl,a.c 1 _ rfl,a.f 0 sI,a.lt⟩,⟨y.c 0 _ rfl,y.c 1 _ rfl,y.lt⟩,by rw[ENH.out];exact R5.b.d.c 1 _ rfl,R5.b.d.lt,f0,f1,gl5,⟨_,g0⟩,⟨_,g1⟩⟩
  ·have k2:Keep [w2.heap.size] wp (w5.setCell ⟨w2.heap.size,0,none⟩ (.slice q5 (0+1) k5)).drew:=((kb.step b5).setCell (p:=⟨w2.heap.size,0,none⟩) (.inl sI) _).drew
   have x3: ∀x∈w2.heap.size::X,x<wp.heap.size:=fun x q=>by have:=X3.out x q;omega
   have ru0:j5 (w2.heap.size::X) w5 (.slice q5 (0+1) k5) (([]:List Ob)++[o]):=by
    rw[←jS] at own
    exact nG own (fun g hg q=>by have:=(own.lt g hg).1;have:=x3 g q;omega)
   have ru:=ru0.keep (((Keep.refl [w2.heap.size] w5).setCell (p:=⟨w2.heap.size,0,none⟩) (.inl sI) (.slice q5 (0+1) k5)).drew) (fun s q=>by simp at q;subst q;exact .inl (aD ..))
   have k1:Keep [pd] w wp:=(Keep.of (BA.out.trans (b4.mono BA.out.size))).then kp4
   exact RD.fin RP HKL.out k1 k2 (aD ..) NRD.out z2 X1.out X2.out x3 ru ((RO2.out.below b4).keep kp4 (fun s q=>by simp at q;subst q;exact .inl (RP.b.mem.1))) (hW.trans (by first|rfl|simp only[go_sem]|simp[go_sem]))
 have HWA:=ah hWA
 clear hp hWA o1 o2 f0 f1 rH vS bA h4 l4 HO1 HO2 hp0 hb2 v0 v1 vl hm2 hnP
 have u0:=LO2.out.c 0 _ rfl;have u1:=LO2.out.c 1 _ rfl;have ul:=LO2.out.lt
 go_wp2_with (first
  |(at_builtin;rw[←HWA.out];refine iT G8 (base:=WA.heap.size) (v:=.slice none 0 0) (us:=[]) (ms:=U) (p:=qp) rf (.tmp 42) (.tmp 46) rf rf 0 nP rf rfl LU.out (aR _ _ _ _) SU.out OU.out om (aI _) ?_;intro q3 k3 w3 hown3 hg3 ug;have b3:Below WA.heap.size WA w3:=(aJ _ _).grown hg3 (aI _) (fun r hr=>by cases hr);rw[bO] at hown3 ug;rw[dZ] at hown3;obtain⟨⟨h0,h1,hf,hl⟩,y2,yf,yl,_⟩:=KP.out w3 b3;have HO3:=ah hown3;have HB3:=ah b3;clear hown3 hg3 ug b3)
  |(at_builtin;go_loud (refine iT G8 (base:=WA.heap.size) (v:=.slice q3 nP k3) (us:=U) (ms:=[.slice qa 4 ca]) (p:=some ⟨w3.heap.size,0,none⟩) rf (.tmp 49) (.tmp 52) rf rf nP 1 rf LU.out rfl (HO3.out.alloc _) (ni w3 (.slice qa 4 ca) 79) (by simp;rfl) om (by have:=HB3.out.size;simp;omega) ?_);intro q4 k4 w4 iK hg4 yu;have b4:Below WA.heap.size WA w4:=((HB3.out.alloc HB3.out.size (.cells #[.slice qa 4 ca] 79))).grown hg4 (by have:=HB3.out.size;simp;omega) (fun r hr=>(HO3.out.lt r hr).1);obtain⟨⟨h0',h1',hf',hl'⟩,y2',yf',yl',y0',y1',yz'⟩:=KP.out w4 b4;obtain⟨WB,hWB⟩: ∃WB,WB=(w4.setCell ⟨pd,2,none⟩ (.slice q4 (nP+1) k4)).setCell ⟨w2.heap.size,0,none⟩ (.slice none 0 0):=⟨_,rfl⟩;have MM:=ah (MK.out w4 q4 k4 WB b4 iK hWB);have ZB:Hid (WB.heap.size=w4.heap.size):=(by show _=_;rw[hWB];simp);have HWB:=ah hWB;clear iK hg4 yu b4 hWB)
  |(at_builtin;rw[←HWB.out];go_loud (refine nI sH (base:=WB.heap.size) (v:=.slice none 0 0) (n:=0) (xs:=jc ([]:List Ob)) (ms:=[.int .i64 o.1,.int .i64 o.2]) (ad:=⟨w4.heap.size,0,none⟩) rf (.tmp 61) (.tmp 63) rf rf rf (aR _ _ _ _) rfl (by have t:=nN WB (.int .i64 o.1) (.int .i64 o.2) 49;rw[ZB.out] at t;exact t) (nO _ _) om sI ?_);intro q5 k5 w5 hown5 hg5 hob5;have b5:Below WB.heap.size WB w5:=((aJ WB.heap.size WB).alloc (aI _) (.cells #[.int .i64 o.1,.int .i64 o.2] 49)).grown hg5 sI (fun r hr=>by cases hr);obtain⟨⟨hb0,hb1,hbf,hbl⟩,_,p1,pl1,fg0,fg1,gl5,⟨u0',cg0⟩,⟨u1',cg1⟩⟩:=MM.out.1.2 w5 b5;have FF:=ah (MM.out.2 w5 q5 k5);have HO5:=ah hown5;have HB5:=ah b5;clear hown5 hg5 hob5 b5))
 refine jR 7 kR kR ?_
 simp only[aV,bB,aS,bq]
 repeat still_step
 refine wpStill_nil ?_
 go_wp2
 go_ret
 exact FF.out _ HB5.out HO5.out rfl
theorem DJ (k:Int) (o:Ob) (h:RD X w pd gh pc pm gN e mn lw hi O M v A V vp U d) (hI:jY e d) (hX: ∀x∈X,x<w.heap.size):
 Calls Tryz.prog 40 #[.pointer (some ⟨pd,0,none⟩),.int .i64 k,.agg #[.int .i64 o.1,.int .i64 o.2]] w (iY X pd gh pc pm gN e mn lw hi O M A w (iU e d k o).1 (.int .i64 (iU e d k o).2)):=by
 cases hh:jI d k with
 |none=>exact DF k o h hX hh
 |some g=>
  obtain⟨k0,h1,h2,h3⟩:=jP hh
  obtain⟨kn,hkn⟩: ∃kn,kn=k.toNat:=⟨_,rfl⟩
  rw[←hkn] at h1 h2 h3
  subst h3
  obtain⟨g1,g2⟩:=g
  cases ho:vB e d o with
  |false=>exact zS kn o h hI hX h2 ho
  |true=>
   by_cases q:g1.length=4
   ·cases g2 with
    |nil=>exact rdgive_2 kn o h hI hX (l2:=[]) h1 q ho
    |cons a r=>exact rdgive_3 kn o h hI hX h1 q sI ho
   ·exact rdgive_1 kn o h hI hX h1 q ho
end
end
section
open Go.RowKit Go.Maps
theorem znode_ok {B:Nat} (pz:Nat) (mn lw hi:Int) (O:List (List Int)) (L:List Nd) (v:Nat) (x:Nd) (w:World) (h:jK B w pz mn lw hi O L) (hx:L[v]?=some x):
 Calls Tryz.prog 143 #[.pointer (some ⟨pz,0,none⟩),.int .i64 v] w fun e w'=>∃pb bf bt,e= .returned (.tuple #[.pointer (some ⟨pb,0,none⟩),.nilIface])∧Bud w' pb x.n bf bt x.F x.T∧Below w.heap.size w w':=by
 have hl:=(aj.1 hx).1
 have NO:=ah (xM pz mn lw hi O L v w h hl)
 have HH:=ah h;have HX:=ah hx
 have v0:(0:Int)≤(v:Int):=om
 have v1:(v:Int)<(L.length:Int):=om
 clear h hx
 go_enter Tryz.func143,Tryz.ntmps143
 go_wp2_with fail
 refine NO.out.mono ?_
 rintro e w1 ⟨rfl,hb1⟩
 have h1:=HH.out.below hb1
 obtain⟨qn,kn,qo,ko,hz,hr,_⟩:=h1.z
 have c5:=hz.c 5 _ rfl;have cl:=hz.lt
 obtain⟨p,cap,e,hc1,hc2,hcc⟩:=hr.form
 obtain⟨g,off,rfl,_,hg,hc⟩:=hcc v _ (xL HX.out)
 injection e with ea eb ec
 subst ea ec
 have gl:=hg
 rw[oC] at hc1
 have hb:=(h1.b.bud x (aB HX.out)).1
 have CP:=ah (fun W (hW:Below w1.heap.size w1 W)=>copy_ok x.pb x.n x.bf x.bt x.F x.T W (hb.keep (Keep.of (S:=[]) hW) sI sI sI))
 unfold maxLen at hc2
 clear NO hz hr hcc h1 hb eb
 go_wp2_with fail
 refine(CP.out _ iB).mono ?_
 rintro e w2 ⟨pb',bf',bt',rfl,hb2,_,hk⟩
 have K2:Below w.heap.size w w2:=hb1.trans ((dW iB hk).mono hb1.size)
 go_wp2
 go_ret2
 exact⟨pb',bf',bt',rfl,hb2,K2⟩
theorem GZ {B:Nat} {ev:Nat→Addr} (pz:Nat) (mn lw hi:Int) (O:List (List Int)) (L:List Nd) (v:Int) (w:World) (hE:qh B ev w) (h:jK B w pz mn lw hi O L) (hL:0<L.length) (hv:v<0∨(L.length:Int)≤v):
 Calls Tryz.prog 143 #[.pointer (some ⟨pz,0,none⟩),.int .i64 v] w fun e w'=>e= .returned (.tuple #[.pointer none,jB ev 2])∧Below w.heap.size w w':=by
 have NO:=ah (xO pz mn lw hi O L v w hE h hL hv)
 have e1:jB ev 2= .iface 434 (.pointer (some (ev 2))):=rfl
 rw[e1] at NO ⊢
 clear h hv hE e1
 go_enter Tryz.func143,Tryz.ntmps143
 go_wp2_with fail
 refine NO.out.mono ?_
 rintro e w1 ⟨rfl,hb1⟩
 go_wp2
 go_ret2
 exact⟨rfl,hb1⟩
theorem H7 {B B':Nat} {ev:Nat→Addr} {X:List Nat} (pz pm gN:Nat) (mn lw hi:Int) (O:List (List Int)) (M:List Nat) (L:List Nd) (w:World) (hE:sS B ev w) (hB1:B≤B') (hB2:B'≤w.heap.size) (h:jK B' w pz mn lw hi O L) (hr:RZ X w pm gN mn lw hi O M L) (hL:0<L.length) (hL4:L.length≤4):
 Calls Tryz.prog 33 #[.pointer (some ⟨pz,0,none⟩),.pointer (some ⟨pm,0,none⟩)] w fun e w'=>e= .returned (.bool true)∧Below w.heap.size w w':=by
 have HE:=ah hE;have HZ:=ah h;have HR:=ah hr
 clear hE h hr
 obtain⟨n,hn⟩: ∃n,n=L.length:=⟨_,rfl⟩
 have EN:=ah hn
 rw[←hn] at hL hL4
 clear hn
 go_enter Tryz.func33,Tryz.ntmps33
 go_wp2_with fail
 go_loopw [5] (fun iv wr=>∃i:Int,-1≤i∧i≤n+1∧iv= .int .i64 i∧Below w.heap.size w wr) (fun iv _=>(n+1-intOf iv).toNat)
 case atStart=>exact⟨-1,om,om,rfl,aJ _ _⟩
 case round=>
  obtain⟨i,hi0,hi1,rfl,hbel⟩:=hrel
  have hr:=HR.out.below hbel
  obtain⟨vP,vN,kn,ko,qo,hz,hkn,hkm,_⟩:=hr.z
  rw[←EN.out] at hz hkn
  have z5:=hz.c 5 _ rfl;have z3:=hz.c 3 _ rfl;have zl:=hz.lt
  have HZL:=ah hz
  unfold maxLen at hkm
  clear hz hr
  by_cases hin:i≤n
  ·have d0:decide (i≤(n:Int))=true:=decide_eq_true hin
   have HBD:=ah hin
   have zb:=HZ.out.below hbel
   have Er:=HE.out.go hbel
   by_cases hgood:0≤i∧i<n
   ·obtain⟨v,rfl⟩: ∃v:Nat,i=v:=⟨i.toNat,om⟩
    obtain⟨x,hx⟩: ∃x,L[v]?=some x:=⟨L[v]'(by rw[←EN.out];omega),au _⟩
    have hI:=HR.out.inv x (aB hx)
    have s1:=hI.Ec.1
    have s2:jA x.F≤256:=by have:=hI.Ec.2;have:=hI.n2;omega
    obtain⟨m,hm⟩: ∃m,M[v]?=some m:=⟨M[v]'(by rw[HR.out.len];exact(aj.1 hx).1),au _⟩
    have HX:=ah hx;have HM:=ah hm;have HI:=ah hI
    have LO:=ah (fun W (hW:Below wr.heap.size wr W)=>low_ok pz mn lw hi O L v x W (zb.below hW) hx)
    have LA:=ah (fun W (hW:Below wr.heap.size wr W)=>lack_ok pz mn lw hi O L v x W (zb.below hW) hx)
    have FR:=ah (fun W (hW:Below wr.heap.size wr W)=>tY pz mn lw hi O L v x W (zb.below hW) hx)
    have ND:=ah (fun W (hW:Below wr.heap.size wr W)=>znode_ok pz mn lw hi O L v x W (zb.below hW) hx)
    have rz:=HR.out.below hbel
    have IN:=ah (fun W (hW:Below wr.heap.size wr W)=>mq pm gN mn lw hi O M L v W (rz.below hW))
    have RL:=ah (fun W (hW:Below wr.heap.size wr W)=>rlack_ok pm gN mn lw hi O M L v x W (rz.below hW) hx)
    obtain⟨vF,vT,hb⟩:=rz.bud v m x hm hx
    have FP:=ah (fun W (hW:Below wr.heap.size wr W)=>nJ m x.n vF vT x.F x.T W (hb.below hW) hI)
    have AB:=ah (fun W pb bf bt (hW:Below wr.heap.size wr W) (uV:Bud W pb x.n bf bt x.F x.T)=>Dh pb m x.n bf bt vF vT x.F x.T W uV (hb.below hW) hI)
    have gN0:=rz.nodes.c v _ (lH hm);have gNl:=rz.nodes.lt
    have HGN:=ah rz.nodes
    have v0:(0:Int)≤(v:Int):=om
    have v1:(v:Int)<(n:Int):=om
    have hd:decide (0≤(v:Int)∧(v:Int)<(L.length:Int))=true:=decide_eq_true ⟨om,by rw[←EN.out];omega⟩
    have HDD:=ah hd
    generalize hs:jA x.F=s at*
    have HS:=ah hs
    obtain⟨b,hbq⟩: ∃b:Bool,decide (s<lw)=b:=⟨_,rfl⟩
    rw[hbq] at LO
    clear hx hm hI zb rz hb hgood hin hd hs
    go_wp2_with fail
    refine(LO.out _ (aJ _ _)).mono ?_
    rintro e w1 ⟨rfl,hb1⟩
    go_wp2_with fail
    refine(LA.out _ hb1).mono ?_
    rintro e w2 ⟨rfl,hb2⟩
    have K2:=hb1.trans (hb2.mono hb1.size)
    go_wp2_with fail
    refine(FR.out _ K2).mono ?_
    rintro e w3 ⟨rfl,hb3⟩
    have K3:=K2.trans (hb3.mono K2.size)
    go_wp2_with fail
    refine(ND.out _ K3).mono ?_
    rintro e w4 ⟨pb,bf,bt,rfl,uV,hb4⟩
    have K4:=K3.trans (hb4.mono K3.size)
    have HBU:=ah uV
    clear uV
    go_wp2_with fail
    refine(IN.out _ K4).mono ?_
    rw[HDD.out]
    rintro e w5 ⟨rfl,hb5⟩
    have K5:=K4.trans (hb5.mono K4.size)
    have y5:=(HZL.out.go K5).c 5 _ rfl;have yl:=(HZL.out.go K5).lt;have y3:=(HZL.out.go K5).c 3 _ rfl
    have g5:=(HGN.out.go K5).c v _ (lH HM.out);have gl5:=(HGN.out.go K5).lt
    clear z5 z3 zl gN0 gNl
    go_wp2_with fail
    refine(FP.out _ K5).mono ?_
    rintro e w6 ⟨rfl,hb6⟩
    have K6:=K5.trans (hb6.mono K5.size)
    have y5:=(HZL.out.go K6).c 5 _ rfl;have yl:=(HZL.out.go K6).lt;have y3:=(HZL.out.go K6).c 3 _ rfl
    have g5:=(HGN.out.go K6).c v _ (lH HM.out);have gl5:=(HGN.out.go K6).lt
    go_wp2_with fail
    refine(RL.out _ K6).mono ?_
    rintro e w7 ⟨rfl,hb7⟩
    have K7:=K6.trans (hb7.mono K6.size)
    have y5:=(HZL.out.go K7).c 5 _ rfl;have yl:=(HZL.out.go K7).lt
    have g5:=(HGN.out.go K7).c v _ (lH HM.out);have gl5:=(HGN.out.go K7).lt
    have K47:Below w4.heap.size w4 w7:=hb5.trans ((hb6.trans (hb7.mono hb6.size)).mono hb5.size)
    have AB7:=ah (AB.out w7 pb bf bt K7 (HBU.out.keep (Keep.of (S:=[]) K47) sI sI sI))
    clear AB
    go_wp2_with fail
    refine AB7.out.mono ?_
    rintro e w8 ⟨rfl,hb8⟩
    have K8:=hbel.trans ((K7.trans (hb8.mono K7.size)).mono hbel.size)
    go_wp2
    go_roundw
    case rel=>exact⟨(v:Int)+1,om,om,by go_num,K8⟩
    case measure=>simp[intOf];omega
   ·have hbad:i<0∨(L.length:Int)≤i:=by have:=EN.out;omega
    have hLL:0<L.length:=by have:=EN.out;omega
    have LO:=ah (fun W (hW:Below wr.heap.size wr W)=>low_err pz mn lw hi O L i W ((Er.go hW).c.up hB1 (by have:=hW.size;have:=hbel.size;omega)) (zb.below hW) hLL hbad)
    have LA:=ah (fun W (hW:Below wr.heap.size wr W)=>lack_err pz mn lw hi O L i W ((Er.go hW).c.up hB1 (by have:=hW.size;have:=hbel.size;omega)) (zb.below hW) hLL hbad)
    have FR:=ah (fun W (hW:Below wr.heap.size wr W)=>r9 pz mn lw hi O L i W ((Er.go hW).c.up hB1 (by have:=hW.size;have:=hbel.size;omega)) (zb.below hW) hLL hbad)
    have ND:=ah (fun W (hW:Below wr.heap.size wr W)=>GZ pz mn lw hi O L i W ((Er.go hW).c.up hB1 (by have:=hW.size;have:=hbel.size;omega)) (zb.below hW) hLL hbad)
    have rz:=HR.out.below hbel
    have hd:decide (0≤i∧i<(L.length:Int))=false:=decide_eq_false om
    have IN:=ah (fun W (hW:Below wr.heap.size wr W)=>mq pm gN mn lw hi O M L i W (rz.below hW))
    have CD:=ah (fun W (hW:Below wr.heap.size wr W)=>pY 2 2 W (Er.go hW) om rfl)
    have HDD:=ah hd
    obtain⟨E2,hE2⟩: ∃E2,E2=jB ev 2:=⟨_,rfl⟩
    rw[←hE2] at LO LA FR ND CD
    clear zb rz hgood hin hd hbad hE2 Er
    go_wp2_with fail
    refine(LO.out _ (aJ _ _)).mono ?_
    rintro e w1 ⟨rfl,hb1⟩
    go_wp2_with fail
    refine(LA.out _ hb1).mono ?_
    rintro e w2 ⟨rfl,hb2⟩
    have K2:=hb1.trans (hb2.mono hb1.size)
    go_wp2_with fail
    refine(FR.out _ K2).mono ?_
    rintro e w3 ⟨rfl,hb3⟩
    have K3:=K2.trans (hb3.mono K2.size)
    go_wp2_with fail
    refine(ND.out _ K3).mono ?_
    rintro e w4 ⟨rfl,hb4⟩
    have K4:=K3.trans (hb4.mono K3.size)
    go_wp2_with fail
    refine(IN.out _ K4).mono ?_
    rw[HDD.out]
    rintro e w5 ⟨rfl,hb5⟩
    have K5:=K4.trans (hb5.mono K4.size)
    go_wp2_with fail
    refine(CD.out _ K5).mono ?_
    rintro e w6 ⟨rfl,hb6⟩
    have K6:=K5.trans (hb6.mono K5.size)
    go_wp2_with fail
    refine(CD.out _ K6).mono ?_
    rintro e w7 ⟨rfl,hb7⟩
    have K7:=K6.trans (hb7.mono K6.size)
    go_wp2_with fail
    refine(CD.out _ K7).mono ?_
    rintro e w8 ⟨rfl,hb8⟩
    have K8:=K7.trans (hb8.mono K7.size)
    go_wp2_with fail
    refine(CD.out _ K8).mono ?_
    rintro e w9 ⟨rfl,hb9⟩
    have K9:=hbel.trans ((K8.trans (hb9.mono K8.size)).mono hbel.size)
    go_wp2
    go_roundw
    case rel=>exact⟨i+1,om,by have:=HBD.out;omega,by go_num,K9⟩
    case measure=>have:=HBD.out;simp[intOf];omega
  ·have d0:decide (i≤(n:Int))=false:=decide_eq_false hin
   clear hin
   go_wp2
   go_ret
   exact⟨rfl,hbel⟩
end
end Go.Proofs.YtdcbhlcbiokbeaaGreatDoor
