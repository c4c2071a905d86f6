/- Lemmas and contracts for the claim's last text: RDGive, EnvR. -/
import Derived.Test.YtehhldljdakgeaaGreatDoorQa01
import Derived.Test.YtehhldljdakgeaaGreatDoorQa25
set_option linter.unusedSimpArgs false
set_option linter.unusedVariables false
set_option maxHeartbeats 16000000
set_option maxRecDepth 100000
namespace Go.Proofs.YtehhldljdakgeaaGreatDoor
open Go.RowKit Go.Maps
attribute [local go_sem ↓] aJ aK
section
variable {X X' Y S M M' F G:List Nat} {w w' w0 wp W2 W:World} {ev:Nat→Addr} {pd gh pc pm gN e:Nat} {mn lw hi:Int} {O:List (List Int)} {v v' vp vp':Value} {A A':SA} {V V':HV} {U U':List Value} {d d' dp:De} {c c':Ca}
theorem RD.fin {k hb:Nat} {u pb:Value} {l' lo:List Ob} {r:Value} (h0:RD X' wp pd gh pc pm gN e mn lw hi O M v A V vp' U' dp) (hk:k<dp.H.length) (k1:Keep [pd] w wp) (k2:Keep [hb] wp W2) (hb1:hb∈X') (hb2:hb∉rds pd gh pc pm gN A M) (hb3:w.heap.size≤hb)
 (x1: ∀x∈X,x∈X') (x2: ∀x∈X',x∈X∨w.heap.size≤x) (x3: ∀x∈X',x<wp.heap.size) (ru:lG X' W2 u l') (ro:lG X' wp pb lo) (hW:W=(W2.setCell ⟨gh,k*2,none⟩ u).setCell ⟨gh,k*2+1,none⟩ pb):
 lI X pd gh pc pm gN e mn lw hi O M A w ⟨dp.c,dp.H.set k (l',lo),dp.P⟩ r (.returned r) W:=by
 have hvl:k<V.length:=by rw[h0.b.hl];exact hk
 have h2:=h0.keep k2 (fun s q=>by simp at q;subst q;exact .inl ⟨hb1,hb2⟩);have ro2:=ro.keep k2 (fun s q=>by simp at q;subst q;exact .inl hb1);have kk:Keep [gh] W2 W:=by rw[hW];exact((Keep.refl _ _).setCell (p:=⟨gh,k*2,none⟩) (.inl sI) _).setCell (p:=⟨gh,k*2+1,none⟩) (.inl sI) _
 have lo':=Oq h2.b.hs hvl u pb;rw[←hW] at lo';have hcd:=h2.wN k (p':=(u,pb)) (h':=(l',lo)) hk ru ro2 kk lo';have K:Keep [pd,gh] w W:=((k1.mono (S':=[pd,gh]) (fun s q=>by simp at q;subst q;simp)).trans k2 (fun s q=>by simp at q;subst q;exact .inr hb3)).trans kk (fun s q=>by simp at q;subst q;exact .inl sI);refine⟨rfl,X',M,v,A,_,vp',U',hcd,K.mono (fun s q=> ?_),x1,x2,fun x q=>aC (x3 x q) (bW k2.size kk.size),fun y q=>.inl q⟩;simp at q;rcases q with rfl|rfl
 ·exact aG ..
 ·exact ak _ (aG ..)
theorem Ra (k:Int) (o:Ob) (h:RD X w pd gh pc pm gN e mn lw hi O M v A V vp U d) (hX: ∀x∈X,x<w.heap.size) (hk:nY d k=none):
 Calls Tryz.prog 51 #[.pointer (some ⟨pd,0,none⟩),.int .i64 k,.agg #[.int .i64 o.1,.int .i64 o.2]] w (lI X pd gh pc pm gN e mn lw hi O M A w (kK e d k o).1 (.int .i64 (kK e d k o).2)):=by
 have ed:kK e d k o=(d,2):=by unfold kK;rw[hk]
 rw[ed];have b1:Below w.heap.size w (w.alloc (.cells #[.int .i64 o.1,.int .i64 o.2] 40)):=jK;have IW0:=(h.below b1).worker k;rw[decide_eq_false (show¬(0≤k∧k<d.H.length) from fun q=>by have:=vQ hk;omega)] at IW0;have IW:=ah IW0;have FIN:Hid (∀W,Below w.heap.size w W→lI X pd gh pc pm gN e mn lw hi O M A w d (.int .i64 2) (.returned (.int .i64 2)) W):=fun W b=>lI.here hX (h.below b) (Keep.of (S:=[]) b) (fun s q=>by cases q)
 clear h hk b1 IW0;go_enter Tryz.func51,jB;go_wp2_with fail;refine IW.out.mono ?_;rintro r w1 ⟨rfl,rfl⟩;clear IW;go_wp2;go_ret;exact FIN.out _ jK
theorem Ga (k:Nat) (o:Ob) (h:RD X w pd gh pc pm gN e mn lw hi O M v A V vp U d) (hI:oH e d) (hX: ∀x∈X,x<w.heap.size) (hk:k<d.H.length) (ho:za e d o=false):
 Calls Tryz.prog 51 #[.pointer (some ⟨pd,0,none⟩),.int .i64 k,.agg #[.int .i64 o.1,.int .i64 o.2]] w (lI X pd gh pc pm gN e mn lw hi O M A w (kK e d k o).1 (.int .i64 (kK e d k o).2)):=by
 have ed:kK e d k o=(d,9):=by unfold kK;rw[nS (aA hk)];simp only[ho];rfl
 rw[ed];obtain⟨wa,hwa⟩:=eY (w.alloc (.cells #[.int .i64 o.1,.int .i64 o.2] 40));have b1:Below w.heap.size w wa:=by rw[hwa];exact jK
 have LO:=ah (show jD wa w.heap.size [.int .i64 o.1,.int .i64 o.2] from by rw[hwa];exact jD.mk_ w [.int .i64 o.1,.int .i64 o.2] 40 rfl);have IW0:=(h.below b1).worker k;rw[decide_eq_true (show 0≤(k:Int)∧(k:Int)<d.H.length from om)] at IW0;have IW:=ah IW0;have IO0:=zo o (h.below b1) hI;rw[ho] at IO0;have IO:=ah IO0;have B1:=ah b1;have FIN:Hid (∀W,Below w.heap.size w W→lI X pd gh pc pm gN e mn lw hi O M A w d (.int .i64 9) (.returned (.int .i64 9)) W):=fun W b=>lI.here hX (h.below b) (Keep.of (S:=[]) b) (fun s q=>by cases q)
 have v0:=LO.out.gC 0;have v1:=LO.out.gC 1;have vl:=LO.out.lt;clear h hI hk b1 IW0 IO0 ho;go_enter Tryz.func51,jB;go_wp2_with fail;rw[←hwa];clear hwa;refine IW.out.mono ?_;rintro r w1 ⟨rfl,rfl⟩;clear IW;go_wp2_with fail;refine IO.out.mono ?_;rintro r w2 ⟨rfl,hb2⟩;have B2:=ah (B1.out.trans (hb2.mono B1.out.size));clear IO hb2 v0 v1;go_wp2;go_ret;exact FIN.out _ B2.out
theorem rdgive_1 (k:Nat) (o:Ob) (h:RD X w pd gh pc pm gN e mn lw hi O M v A V vp U d) (hI:oH e d) (hX: ∀x∈X,x<w.heap.size) {l1 l2:List Ob} (hk:d.H[k]?=some (l1,l2)) (h4:l1.length≠4) (ho:za e d o=true):
 Calls Tryz.prog 51 #[.pointer (some ⟨pd,0,none⟩),.int .i64 k,.agg #[.int .i64 o.1,.int .i64 o.2]] w (lI X pd gh pc pm gN e mn lw hi O M A w (kK e d k o).1 (.int .i64 (kK e d k o).2)):=by
 have hkl:=(au.1 hk).1;have ef:oV (l1,l2) d.P=((l1,l2),d.P):=by unfold oV;rw[if_neg h4]
 have eg:kK e d k o=(⟨d.c,d.H.set k (l1++[o],l2),d.P⟩,0):=by unfold kK;rw[nS hk];simp only[ho,if_true,ef];rfl
 rw[eg];obtain⟨wa,hwa⟩:=eY (w.alloc (.cells #[.int .i64 o.1,.int .i64 o.2] 40));have b1:Below w.heap.size w wa:=by rw[hwa];exact jK
 have LO:=ah (show jD wa w.heap.size [.int .i64 o.1,.int .i64 o.2] from by rw[hwa];exact jD.mk_ w [.int .i64 o.1,.int .i64 o.2] 40 rfl);have IW0:=(h.below b1).worker k;rw[decide_eq_true (show 0≤(k:Int)∧(k:Int)<d.H.length from om)] at IW0;have IW:=ah IW0;have IO0:=zo o (h.below b1) hI;rw[ho] at IO0;have IO:=ah IO0;have B1:=ah b1;have hH4:=hI.hl;have l4:=hI.h4 _ (aF hk);simp only at l4;have pl:d.P.length≤65536:=by have:=(mW hI).1;have:=nO hI.c;omega
 have v0:=LO.out.gC 0;have v1:=LO.out.gC 1;have vl:=LO.out.lt;have HH:=ah h;have HK:=ah hk;have HX:=ah hX;have HKL:=ah hkl;obtain⟨nH,hnH⟩: ∃n,n=d.H.length:=⟨_,rfl⟩;have ENH:=ah hnH;rw[←hnH] at hkl hH4;clear h hI hk b1 IW0 IO0 ho ef eg hnH hX;go_enter Tryz.func51,jB;go_wp2_with fail;rw[←hwa];clear hwa;refine IW.out.mono ?_;rintro r w1 ⟨rfl,rfl⟩;clear IW;go_wp2_with fail;refine IO.out.mono ?_;rintro r w2 ⟨rfl,hb2⟩;have B2:=ah (B1.out.trans (hb2.mono B1.out.size));have z2:=B2.out.size;have LO2:=ah (LO.out.go hb2);obtain⟨p,hp,o1,o2,g0,g1,f0,f1,gl⟩:=(HH.out.below B2.out).hand HK.out;obtain⟨⟨pa,pb⟩,rfl⟩: ∃q,q=p:=⟨_,rfl⟩;obtain⟨qa,ca,e1,ka1,ka2⟩:=o1.isSlice;obtain⟨qb,cb,e2,kb1,kb2⟩:=o2.isSlice;simp only at e1 e2 g0 g1 hp o1 o2 ka1 kb1;subst e1 e2;have c1:=(HH.out.below B2.out).b.d.gC 1;have cl:=(HH.out.below B2.out).b.d.lt;rw[←ENH.out] at c1;have hvl:k<V.length:=by rw[HH.out.b.hl];exact HKL.out
 have glw:gh<w.heap.size:=HH.out.b.hs.lt;have plw:pd<w.heap.size:=HH.out.b.d.lt;obtain⟨hbx,hhbx⟩:=eY w2.heap.size;have n1: ¬(gh=w2.heap.size):=om;have n2: ¬(w2.heap.size=gh):=om;have n3: ¬(pd=w2.heap.size):=om;have n4: ¬(w2.heap.size=pd):=om;have n5: ¬(w.heap.size=w2.heap.size):=by have:=LO2.out.lt;omega
 have NRD:Hid (w2.heap.size∉rds pd gh pc pm gN A M):=fun q=>by have:=(HH.out.below B2.out).lt _ q;omega
 have i0:(0:Int)≤(k:Int):=om;have i1:(k:Int)<(nH:Int):=om;have hp0:Hid (V[k]?=some (.slice qa l1.length ca,.slice qb l2.length cb)):=hp;have HO1:=ah o1;have HO2:=ah o2;obtain⟨m1,hm1⟩: ∃m,m=l1.length:=⟨_,rfl⟩;obtain⟨m2,hm2⟩: ∃m,m=l2.length:=⟨_,rfl⟩;rw[←hm1] at g0 h4 l4 ka1;rw[←hm2] at g1 l4;have HO1:Hid (lG X w2 (.slice qa m1 ca) l1):=by have t:=HO1.out;rw[←hm1] at t;exact t
 have HO2:Hid (lG X w2 (.slice qb m2 cb) l2):=by have t:=HO2.out;rw[←hm2] at t;exact t
 obtain⟨WA,hWA⟩:=eY (w2.alloc (.cells #[.slice qa m1 ca,.slice qb m2 cb] 153));have bA:Below w2.heap.size w2 WA:=by rw[hWA];exact jK
 have zA:WA.heap.size=w2.heap.size+1:=by rw[hWA];simp
 have LH:=ah (show jD WA w2.heap.size [.slice qa m1 ca,.slice qb m2 cb] from by rw[hWA];exact jD.mk_ w2 [.slice qa m1 ca,.slice qb m2 cb] 153 rfl);have LOA:=ah (LO2.out.go bA);have BA:=ah (B2.out.trans (bA.mono z2));have xC: ∀y∈w2.heap.size::X,y∈X∨w.heap.size≤y:=fun y hy=>by
  rcases aB.1 hy with rfl|q
  ·exact .inr z2
  ·exact .inl q
 have RA:=ah ((HH.out.more (Y:=w2.heap.size::X) (fun x q=>ak _ q) xC).below BA.out);have Aq: ∀y∈w2.heap.size::X,y∈X∨w2.heap.size≤y:=fun y hy=>by
  rcases aB.1 hy with rfl|q
  ·exact .inr (aH _)
  ·exact .inl q
 have RO1:=ah ((HO1.out.more Aq).below bA);have RO2:=ah ((HO2.out.more Aq).below bA);have X1:Hid (∀x∈X,x∈w2.heap.size::X):=fun x q=>ak _ q
 have X2:Hid (∀x∈w2.heap.size::X,x∈X∨w.heap.size≤x):=xC;have X3:Hid (∀x∈w2.heap.size::X,x<WA.heap.size):=fun x q=>by
  rcases aB.1 q with rfl|q
  ·omega
  ·have:=HX.out x q;omega
 have LE0:Hid ((kG l1).length=m1*2):=by show _=_;simp[kV];try omega
 have OE:Hid (∀u∈kG l1,u.oneCell'=true):=pI _;have FIN:Hid (∀w5 q4 k4 W,Below WA.heap.size WA w5→w5.ownsRow WA.heap.size 40 2 (.slice q4 (m1+1) k4) (m1+1) (kG l1++[.int .i64 o.1,.int .i64 o.2])→W=(((w5.setCell ⟨w2.heap.size,0,none⟩ (.slice q4 (m1+1) k4)).setCell ⟨gh,k*2,none⟩ (.slice q4 (m1+1) k4)).setCell ⟨gh,k*2+1,none⟩ (.slice qb m2 cb)).drew→lI X pd gh pc pm gN e mn lw hi O M A w ⟨d.c,d.H.set k (l1++[o],l2),d.P⟩ (.int .i64 0) (.returned (.int .i64 0)) W):=fun w5 q4 k4 W b5 own hW=>by
  have k2:Keep [w2.heap.size] WA (w5.setCell ⟨w2.heap.size,0,none⟩ (.slice q4 (m1+1) k4)).drew:=((Keep.of b5).setCell (p:=⟨w2.heap.size,0,none⟩) (.inl sI) _).drew;have ru0:lG (w2.heap.size::X) w5 (.slice q4 (m1+1) k4) (l1++[o]):=by
   have e:m1+1=(l1++[o]).length:=by simp;try omega
   rw[←l8,e] at own;rw[e];exact pO own (fun g hg q=>by have:=(own.lt g hg).1;have:=X3.out g q;omega)
  have ru:=ru0.keep (((Keep.refl [w2.heap.size] w5).setCell (p:=⟨w2.heap.size,0,none⟩) (.inl sI) (.slice q4 (m1+1) k4)).drew) (fun s q=>by simp at q;subst q;exact .inl (aG ..));exact RD.fin RA.out HKL.out (Keep.of BA.out) k2 (aG ..) NRD.out z2 X1.out X2.out X3.out ru RO2.out (hW.trans (by first|rfl|simp only[go_sem]|simp[go_sem]))
 have KP:Hid (∀w5,Below WA.heap.size WA w5→(w5.cell? ⟨w2.heap.size,0,none⟩=some (.slice qa m1 ca)∧w5.cell? ⟨w2.heap.size,1,none⟩=some (.slice qb m2 cb)∧w5.frozen? ⟨w2.heap.size,0,none⟩=false∧w2.heap.size<w5.heap.size)∧(w5.cell? ⟨w.heap.size,0,none⟩=some (.int .i64 o.1)∧w5.cell? ⟨w.heap.size,1,none⟩=some (.int .i64 o.2)∧w.heap.size<w5.heap.size)∧w5.cell? ⟨pd,1,none⟩=some (.slice (some ⟨gh,0,none⟩) nH nH)∧pd<w5.heap.size∧w5.frozen? ⟨gh,k*2,none⟩=false∧w5.frozen? ⟨gh,k*2+1,none⟩=false∧gh<w5.heap.size∧(∃u0,w5.cell? ⟨gh,k*2,none⟩=some u0)∧∃u1,w5.cell? ⟨gh,k*2+1,none⟩=some u1):=fun w5 b=>by
  have a:=LH.out.go b;have y:=LOA.out.go b;have R5:=RA.out.below b;obtain⟨p5,_,_,_,g0,g1,f0,f1,gl5⟩:=R5.hand HK.out;exact⟨⟨a.gC 0,a.gC 1,a.f 0 sI,a.lt⟩,⟨y.gC 0,y.gC 1,y.lt⟩,by rw[ENH.out];exact R5.b.d.gC 1,R5.b.d.lt,f0,f1,gl5,⟨_,g0⟩,⟨_,g1⟩⟩
 have cf2:=(LOA.out.gC 0);have ZW:Hid (w2.heap.size<WA.heap.size):=by show _<_;omega
 have S0:=ah (lG.srcO RO1.out).2;have d4:decide ((m1:Int)=4)=false:=decide_eq_false om;have HWA:=ah hWA;clear hp hWA o1 o2 f0 f1 xC Aq bA cf2 hm1 hm2 HO1 HO2 hp0 hb2 v0 v1 vl;have u0:=LO2.out.gC 0;have u1:=LO2.out.gC 1;have ul:=LO2.out.lt;go_wp2_with (first
  |(at_builtin;rw[←HWA.out];refine kM rY (base:=WA.heap.size) (v:=.slice none 0 0) (n:=0) (m:=m1) (xs:=[]) (ms:=kG l1) (p:=qa) rf (.tmp 57) (.tmp 59) rf rf rf (aT _ _ _ _) LE0.out S0.out OE.out om (aH _) ?_;intro q3 k3 w4 hown3 hg3 zm;have b3:Below WA.heap.size WA w4:=(aO _ _).grown hg3 (aH _) (fun r hr=>by cases hr);rw[bH] at hown3 zm;rw[dz] at hown3;obtain⟨⟨h0,h1,hf,hl⟩,⟨y0,y1,yl⟩,_⟩:=KP.out w4 b3;have HO3:=ah hown3;have HB3:=ah b3;clear hown3 hg3 zm b3)
  |(at_builtin;go_loud (refine qL rY (base:=WA.heap.size) (v:=.slice q3 m1 k3) (n:=m1) (ms:=[.int .i64 o.1,.int .i64 o.2]) (ad:=⟨w4.heap.size,0,none⟩) rf (.tmp 61) (.tmp 63) rf rf rf (HO3.out.alloc _) rfl (nJ w4 (.int .i64 o.1) (.int .i64 o.2) 40) (nK _ _) om (by have:=HB3.out.size;simp;omega) ?_);intro q4 k4 w5 jV hg4 GU;have b5:Below WA.heap.size WA w5:=((HB3.out.alloc HB3.out.size (.cells #[.int .i64 o.1,.int .i64 o.2] 40))).grown hg4 (by have:=HB3.out.size;simp;omega) (fun r hr=>(HO3.out.lt r hr).1);obtain⟨⟨h0',h1',hf',hl'⟩,_,p1,pl1,fg0,fg1,gl5,⟨u0',cg0⟩,⟨u1',cg1⟩⟩:=KP.out w5 b5;have FF:=ah (FIN.out w5 q4 k4);have HO4:=ah jV;have HB5:=ah b5;clear jV hg4 GU b5))
 refine kX 7 kR kR ?_;simp only[aQ,aW,aP,aU];repeat still_step
 refine wpStill_nil ?_;go_wp2;go_ret;exact FF.out _ HB5.out HO4.out rfl
theorem rdgive_2 (k:Nat) (o:Ob) (h:RD X w pd gh pc pm gN e mn lw hi O M v A V vp U d) (hI:oH e d) (hX: ∀x∈X,x<w.heap.size) {l1 l2:List Ob} (hk:d.H[k]?=some (l1,[])) (h4:l1.length=4) (ho:za e d o=true):
 Calls Tryz.prog 51 #[.pointer (some ⟨pd,0,none⟩),.int .i64 k,.agg #[.int .i64 o.1,.int .i64 o.2]] w (lI X pd gh pc pm gN e mn lw hi O M A w (kK e d k o).1 (.int .i64 (kK e d k o).2)):=by
 have hkl:=(au.1 hk).1;have ef:oV (l1,[]) d.P=(([],l1),d.P):=by unfold oV;rw[if_pos h4,if_pos rfl]
 have eg:kK e d k o=(⟨d.c,d.H.set k ([]++[o],l1),d.P⟩,0):=by unfold kK;rw[nS hk];simp only[ho,if_true,ef];rfl
 rw[eg];obtain⟨wa,hwa⟩:=eY (w.alloc (.cells #[.int .i64 o.1,.int .i64 o.2] 40));have b1:Below w.heap.size w wa:=by rw[hwa];exact jK
 have LO:=ah (show jD wa w.heap.size [.int .i64 o.1,.int .i64 o.2] from by rw[hwa];exact jD.mk_ w [.int .i64 o.1,.int .i64 o.2] 40 rfl);have IW0:=(h.below b1).worker k;rw[decide_eq_true (show 0≤(k:Int)∧(k:Int)<d.H.length from om)] at IW0;have IW:=ah IW0;have IO0:=zo o (h.below b1) hI;rw[ho] at IO0;have IO:=ah IO0;have B1:=ah b1;have hH4:=hI.hl;have l4:=hI.h4 _ (aF hk);simp only at l4;have pl:d.P.length≤65536:=by have:=(mW hI).1;have:=nO hI.c;omega
 have v0:=LO.out.gC 0;have v1:=LO.out.gC 1;have vl:=LO.out.lt;have HH:=ah h;have HK:=ah hk;have HX:=ah hX;have HKL:=ah hkl;obtain⟨nH,hnH⟩: ∃n,n=d.H.length:=⟨_,rfl⟩;have ENH:=ah hnH;rw[←hnH] at hkl hH4;clear h hI hk b1 IW0 IO0 ho ef eg hnH hX;go_enter Tryz.func51,jB;go_wp2_with fail;rw[←hwa];clear hwa;refine IW.out.mono ?_;rintro r w1 ⟨rfl,rfl⟩;clear IW;go_wp2_with fail;refine IO.out.mono ?_;rintro r w2 ⟨rfl,hb2⟩;have B2:=ah (B1.out.trans (hb2.mono B1.out.size));have z2:=B2.out.size;have LO2:=ah (LO.out.go hb2);obtain⟨p,hp,o1,o2,g0,g1,f0,f1,gl⟩:=(HH.out.below B2.out).hand HK.out;obtain⟨⟨pa,pb⟩,rfl⟩: ∃q,q=p:=⟨_,rfl⟩;obtain⟨qa,ca,e1,ka1,ka2⟩:=o1.isSlice;obtain⟨qb,cb,e2,kb1,kb2⟩:=o2.isSlice;simp only at e1 e2 g0 g1 hp o1 o2 ka1 kb1;subst e1 e2;have c1:=(HH.out.below B2.out).b.d.gC 1;have cl:=(HH.out.below B2.out).b.d.lt;rw[←ENH.out] at c1;have hvl:k<V.length:=by rw[HH.out.b.hl];exact HKL.out
 have glw:gh<w.heap.size:=HH.out.b.hs.lt;have plw:pd<w.heap.size:=HH.out.b.d.lt;obtain⟨hbx,hhbx⟩:=eY w2.heap.size;have n1: ¬(gh=w2.heap.size):=om;have n2: ¬(w2.heap.size=gh):=om;have n3: ¬(pd=w2.heap.size):=om;have n4: ¬(w2.heap.size=pd):=om;have n5: ¬(w.heap.size=w2.heap.size):=by have:=LO2.out.lt;omega
 have NRD:Hid (w2.heap.size∉rds pd gh pc pm gN A M):=fun q=>by have:=(HH.out.below B2.out).lt _ q;omega
 have i0:(0:Int)≤(k:Int):=om;have i1:(k:Int)<(nH:Int):=om;have hp0:Hid (V[k]?=some (.slice qa l1.length ca,.slice qb ([]:List Ob).length cb)):=hp;have HO1:=ah o1;have HO2:=ah o2;have HO1:Hid (lG X w2 (.slice qa 4 ca) l1):=by have t:=HO1.out;rw[h4] at t;exact t
 have HO2:Hid (lG X w2 (.slice qb 0 cb) []):=HO2.out;rw[h4] at g0 ka1;rw[show([]:List Ob).length=0 from rfl] at g1;obtain⟨WA,hWA⟩:=eY (w2.alloc (.cells #[.slice qb 0 cb,.slice qa 4 ca] 153));have bA:Below w2.heap.size w2 WA:=by rw[hWA];exact jK
 have zA:WA.heap.size=w2.heap.size+1:=by rw[hWA];simp
 have LH:=ah (show jD WA w2.heap.size [.slice qb 0 cb,.slice qa 4 ca] from by rw[hWA];exact jD.mk_ w2 [.slice qb 0 cb,.slice qa 4 ca] 153 rfl);have LOA:=ah (LO2.out.go bA);have BA:=ah (B2.out.trans (bA.mono z2));have xC: ∀y∈w2.heap.size::X,y∈X∨w.heap.size≤y:=fun y hy=>by
  rcases aB.1 hy with rfl|q
  ·exact .inr z2
  ·exact .inl q
 have RA:=ah ((HH.out.more (Y:=w2.heap.size::X) (fun x q=>ak _ q) xC).below BA.out);have Aq: ∀y∈w2.heap.size::X,y∈X∨w2.heap.size≤y:=fun y hy=>by
  rcases aB.1 hy with rfl|q
  ·exact .inr (aH _)
  ·exact .inl q
 have RO1:=ah ((HO1.out.more Aq).below bA);have RO2:=ah ((HO2.out.more Aq).below bA);have X1:Hid (∀x∈X,x∈w2.heap.size::X):=fun x q=>ak _ q
 have X2:Hid (∀x∈w2.heap.size::X,x∈X∨w.heap.size≤x):=xC;have X3:Hid (∀x∈w2.heap.size::X,x<WA.heap.size):=fun x q=>by
  rcases aB.1 q with rfl|q
  ·omega
  ·have:=HX.out x q;omega
 have LE0:Hid ((kG ([]:List Ob)).length=0*2):=by show _=_;simp[kV];try omega
 have OE:Hid (∀u∈kG ([]:List Ob),u.oneCell'=true):=pI _;have FIN:Hid (∀w5 q4 k4 W,Below WA.heap.size WA w5→w5.ownsRow WA.heap.size 40 2 (.slice q4 (0+1) k4) (0+1) (kG ([]:List Ob)++[.int .i64 o.1,.int .i64 o.2])→W=(((w5.setCell ⟨w2.heap.size,0,none⟩ (.slice q4 (0+1) k4)).setCell ⟨gh,k*2,none⟩ (.slice q4 (0+1) k4)).setCell ⟨gh,k*2+1,none⟩ (.slice qa 4 ca)).drew→lI X pd gh pc pm gN e mn lw hi O M A w ⟨d.c,d.H.set k ([]++[o],l1),d.P⟩ (.int .i64 0) (.returned (.int .i64 0)) W):=fun w5 q4 k4 W b5 own hW=>by
  have k2:Keep [w2.heap.size] WA (w5.setCell ⟨w2.heap.size,0,none⟩ (.slice q4 (0+1) k4)).drew:=((Keep.of b5).setCell (p:=⟨w2.heap.size,0,none⟩) (.inl sI) _).drew;have ru0:lG (w2.heap.size::X) w5 (.slice q4 (0+1) k4) (([]:List Ob)++[o]):=by
   have e:0+1=(([]:List Ob)++[o]).length:=by simp;try omega
   rw[←l8,e] at own;rw[e];exact pO own (fun g hg q=>by have:=(own.lt g hg).1;have:=X3.out g q;omega)
  have ru:=ru0.keep (((Keep.refl [w2.heap.size] w5).setCell (p:=⟨w2.heap.size,0,none⟩) (.inl sI) (.slice q4 (0+1) k4)).drew) (fun s q=>by simp at q;subst q;exact .inl (aG ..));exact RD.fin RA.out HKL.out (Keep.of BA.out) k2 (aG ..) NRD.out z2 X1.out X2.out X3.out ru RO1.out (hW.trans (by first|rfl|simp only[go_sem]|simp[go_sem]))
 have KP:Hid (∀w5,Below WA.heap.size WA w5→(w5.cell? ⟨w2.heap.size,0,none⟩=some (.slice qb 0 cb)∧w5.cell? ⟨w2.heap.size,1,none⟩=some (.slice qa 4 ca)∧w5.frozen? ⟨w2.heap.size,0,none⟩=false∧w2.heap.size<w5.heap.size)∧(w5.cell? ⟨w.heap.size,0,none⟩=some (.int .i64 o.1)∧w5.cell? ⟨w.heap.size,1,none⟩=some (.int .i64 o.2)∧w.heap.size<w5.heap.size)∧w5.cell? ⟨pd,1,none⟩=some (.slice (some ⟨gh,0,none⟩) nH nH)∧pd<w5.heap.size∧w5.frozen? ⟨gh,k*2,none⟩=false∧w5.frozen? ⟨gh,k*2+1,none⟩=false∧gh<w5.heap.size∧(∃u0,w5.cell? ⟨gh,k*2,none⟩=some u0)∧∃u1,w5.cell? ⟨gh,k*2+1,none⟩=some u1):=fun w5 b=>by
  have a:=LH.out.go b;have y:=LOA.out.go b;have R5:=RA.out.below b;obtain⟨p5,_,_,_,g0,g1,f0,f1,gl5⟩:=R5.hand HK.out;exact⟨⟨a.gC 0,a.gC 1,a.f 0 sI,a.lt⟩,⟨y.gC 0,y.gC 1,y.lt⟩,by rw[ENH.out];exact R5.b.d.gC 1,R5.b.d.lt,f0,f1,gl5,⟨_,g0⟩,⟨_,g1⟩⟩
 have cf2:=(LOA.out.gC 0);have ZW:Hid (w2.heap.size<WA.heap.size):=by show _<_;omega
 have S0:=ah (lG.srcO RO2.out).2;have HWA:=ah hWA;clear hp hWA o1 o2 f0 f1 xC Aq bA cf2 h4 l4 HO1 HO2 hp0 hb2 v0 v1 vl;have u0:=LO2.out.gC 0;have u1:=LO2.out.gC 1;have ul:=LO2.out.lt;go_wp2_with (first
  |(at_builtin;rw[←HWA.out];refine kM rY (base:=WA.heap.size) (v:=.slice none 0 0) (n:=0) (m:=0) (xs:=[]) (ms:=kG ([]:List Ob)) (p:=qb) rf (.tmp 57) (.tmp 59) rf rf rf (aT _ _ _ _) LE0.out S0.out OE.out om (aH _) ?_;intro q3 k3 w4 hown3 hg3 zm;have b3:Below WA.heap.size WA w4:=(aO _ _).grown hg3 (aH _) (fun r hr=>by cases hr);rw[bH] at hown3 zm;rw[dz] at hown3;obtain⟨⟨h0,h1,hf,hl⟩,⟨y0,y1,yl⟩,_⟩:=KP.out w4 b3;have HO3:=ah hown3;have HB3:=ah b3;clear hown3 hg3 zm b3)
  |(at_builtin;go_loud (refine qL rY (base:=WA.heap.size) (v:=.slice q3 0 k3) (n:=0) (ms:=[.int .i64 o.1,.int .i64 o.2]) (ad:=⟨w4.heap.size,0,none⟩) rf (.tmp 61) (.tmp 63) rf rf rf (HO3.out.alloc _) rfl (nJ w4 (.int .i64 o.1) (.int .i64 o.2) 40) (nK _ _) om (by have:=HB3.out.size;simp;omega) ?_);intro q4 k4 w5 jV hg4 GU;have b5:Below WA.heap.size WA w5:=((HB3.out.alloc HB3.out.size (.cells #[.int .i64 o.1,.int .i64 o.2] 40))).grown hg4 (by have:=HB3.out.size;simp;omega) (fun r hr=>(HO3.out.lt r hr).1);obtain⟨⟨h0',h1',hf',hl'⟩,_,p1,pl1,fg0,fg1,gl5,⟨u0',cg0⟩,⟨u1',cg1⟩⟩:=KP.out w5 b5;have FF:=ah (FIN.out w5 q4 k4);have HO4:=ah jV;have HB5:=ah b5;clear jV hg4 GU b5))
 refine kX 7 kR kR ?_;simp only[aQ,aW,aP,aU];repeat still_step
 refine wpStill_nil ?_;go_wp2;go_ret;exact FF.out _ HB5.out HO4.out rfl
theorem RD.push {n:Nat} {u:Value} {l1:List Ob} {WA w4:World} {q4:Option Addr} {k4:Nat} (h:RD X' WA pd gh pc pm gN e mn lw hi O M v A V vp U d) (b4:Below WA.heap.size WA w4) (own:w4.ownsRow WA.heap.size 38 1 (.slice q4 (n+1) k4) (n+1) (U++[u])) (hn:n=d.P.length) (ru:lG X' WA u l1) (hX: ∀x∈X',x<WA.heap.size) (hwp:wp=w4.setCell ⟨pd,2,none⟩ (.slice q4 (n+1) k4)):
 RD X' wp pd gh pc pm gN e mn lw hi O M v A V (.slice q4 (n+1) k4) (U++[u]) ⟨d.c,d.H,d.P++[l1]⟩:=by
 have h4:=h.below b4;have hul:=h.b.ul;have el:(U++[u]).length=n+1:=by simp;omega
 have kk:Keep [pd] w4 wp:=by rw[hwp];exact(Keep.refl _ _).setCell (p:=⟨pd,2,none⟩) (.inl sI) _
 have hd:=h4.b.d.store 2 (.slice q4 (n+1) k4) sI;rw[←hwp] at hd;refine h4.setPile kk hd (oL (base:=WA.heap.size) (by rw[el];exact own) (fun x hx g hg r=>by have:=(own.lt g hg).1;have:=hX x hx;omega)) (by simp;omega) (fun i u' m' hu hm=> ?_);by_cases q:i<U.length
 ·rw[bG q] at hu
  rw[bG om] at hm;exact h4.b.po i u' m' hu hm
 ·have hi1:=(au.1 hu).1
  have:i=U.length:=by rw[el] at hi1;omega
  subst this;rw[bK (aH _)] at hu;rw[hul,bK (aH _)] at hm;simp at hu hm;subst hu hm;exact ru.below b4
theorem rdgive_3 (k:Nat) (o:Ob) (h:RD X w pd gh pc pm gN e mn lw hi O M v A V vp U d) (hI:oH e d) (hX: ∀x∈X,x<w.heap.size) {l1 l2:List Ob} (hk:d.H[k]?=some (l1,l2)) (h4:l1.length=4) (hne:l2≠[]) (ho:za e d o=true):
 Calls Tryz.prog 51 #[.pointer (some ⟨pd,0,none⟩),.int .i64 k,.agg #[.int .i64 o.1,.int .i64 o.2]] w (lI X pd gh pc pm gN e mn lw hi O M A w (kK e d k o).1 (.int .i64 (kK e d k o).2)):=by
 have hkl:=(au.1 hk).1;have ef:oV (l1,l2) d.P=(([],l2),d.P++[l1]):=by unfold oV;rw[if_pos h4,if_neg hne]
 have eg:kK e d k o=(⟨d.c,d.H.set k ([]++[o],l2),d.P++[l1]⟩,0):=by unfold kK;rw[nS hk];simp only[ho,if_true,ef];rfl
 rw[eg];obtain⟨wa,hwa⟩:=eY (w.alloc (.cells #[.int .i64 o.1,.int .i64 o.2] 40));have b1:Below w.heap.size w wa:=by rw[hwa];exact jK
 have LO:=ah (show jD wa w.heap.size [.int .i64 o.1,.int .i64 o.2] from by rw[hwa];exact jD.mk_ w [.int .i64 o.1,.int .i64 o.2] 40 rfl);have IW0:=(h.below b1).worker k;rw[decide_eq_true (show 0≤(k:Int)∧(k:Int)<d.H.length from om)] at IW0;have IW:=ah IW0;have IO0:=zo o (h.below b1) hI;rw[ho] at IO0;have IO:=ah IO0;have B1:=ah b1;have hH4:=hI.hl;have l4:=hI.h4 _ (aF hk);simp only at l4;have pl:d.P.length≤16384:=by have:=(mW hI).1;have:=nO hI.c;omega
 obtain⟨qp,kp,evp,kp1,kp2,_⟩:=h.pile;subst evp;unfold maxLen at kp2;have v0:=LO.out.gC 0;have v1:=LO.out.gC 1;have vl:=LO.out.lt;have HH:=ah h;have HK:=ah hk;have HX:=ah hX;have HKL:=ah hkl;obtain⟨nH,hnH⟩: ∃n,n=d.H.length:=⟨_,rfl⟩;have ENH:=ah hnH;rw[←hnH] at hkl hH4;clear h hI hk b1 IW0 IO0 ho ef eg hnH hX;go_enter Tryz.func51,jB;go_wp2_with fail;rw[←hwa];clear hwa;refine IW.out.mono ?_;rintro r w1 ⟨rfl,rfl⟩;clear IW;go_wp2_with fail;refine IO.out.mono ?_;rintro r w2 ⟨rfl,hb2⟩;have B2:=ah (B1.out.trans (hb2.mono B1.out.size));have z2:=B2.out.size;have LO2:=ah (LO.out.go hb2);obtain⟨p,hp,o1,o2,g0,g1,f0,f1,gl⟩:=(HH.out.below B2.out).hand HK.out;obtain⟨⟨pa,pb⟩,rfl⟩: ∃q,q=p:=⟨_,rfl⟩;obtain⟨qa,ca,e1,ka1,ka2⟩:=o1.isSlice;obtain⟨qb,cb,e2,kb1,kb2⟩:=o2.isSlice;simp only at e1 e2 g0 g1 hp o1 o2 ka1 kb1;subst e1 e2;have c1:=(HH.out.below B2.out).b.d.gC 1;have cl:=(HH.out.below B2.out).b.d.lt;rw[←ENH.out] at c1;have hvl:k<V.length:=by rw[HH.out.b.hl];exact HKL.out
 have glw:gh<w.heap.size:=HH.out.b.hs.lt;have plw:pd<w.heap.size:=HH.out.b.d.lt;obtain⟨hbx,hhbx⟩:=eY w2.heap.size;have n1: ¬(gh=w2.heap.size):=om;have n2: ¬(w2.heap.size=gh):=om;have n3: ¬(pd=w2.heap.size):=om;have n4: ¬(w2.heap.size=pd):=om;have n5: ¬(w.heap.size=w2.heap.size):=by have:=LO2.out.lt;omega
 have NRD:Hid (w2.heap.size∉rds pd gh pc pm gN A M):=fun q=>by have:=(HH.out.below B2.out).lt _ q;omega
 have i0:(0:Int)≤(k:Int):=om;have i1:(k:Int)<(nH:Int):=om;have hp0:Hid (V[k]?=some (.slice qa l1.length ca,.slice qb l2.length cb)):=hp;have HO1:=ah o1;have HO2:=ah o2;obtain⟨m2,hm2⟩: ∃m,m=l2.length:=⟨_,rfl⟩;have HO1:Hid (lG X w2 (.slice qa 4 ca) l1):=by have t:=HO1.out;rw[h4] at t;exact t
 have HO2:Hid (lG X w2 (.slice qb m2 cb) l2):=by have t:=HO2.out;rw[←hm2] at t;exact t
 rw[h4] at g0 ka1;rw[←hm2] at g1 kb1 l4;have hm0:0<m2:=by rw[hm2];exact List.length_pos_iff.2 hne
 have hm4:m2≤4:=l4.2;have d0:decide ((m2:Int)=0)=false:=decide_eq_false om;have d0':(m2==0)=false:=by simp;omega
 obtain⟨WA,hWA⟩:=eY (w2.alloc (.cells #[.slice qa 4 ca,.slice qb m2 cb] 153));have bA:Below w2.heap.size w2 WA:=by rw[hWA];exact jK
 have zA:WA.heap.size=w2.heap.size+1:=by rw[hWA];simp
 have LH:=ah (show jD WA w2.heap.size [.slice qa 4 ca,.slice qb m2 cb] from by rw[hWA];exact jD.mk_ w2 [.slice qa 4 ca,.slice qb m2 cb] 153 rfl);have LOA:=ah (LO2.out.go bA);have BA:=ah (B2.out.trans (bA.mono z2));have xC: ∀y∈w2.heap.size::X,y∈X∨w.heap.size≤y:=fun y hy=>by
  rcases aB.1 hy with rfl|q
  ·exact .inr z2
  ·exact .inl q
 have RA:=ah ((HH.out.more (Y:=w2.heap.size::X) (fun x q=>ak _ q) xC).below BA.out);have Aq: ∀y∈w2.heap.size::X,y∈X∨w2.heap.size≤y:=fun y hy=>by
  rcases aB.1 hy with rfl|q
  ·exact .inr (aH _)
  ·exact .inl q
 have RO1:=ah ((HO1.out.more Aq).below bA);have RO2:=ah ((HO2.out.more Aq).below bA);have X1:Hid (∀x∈X,x∈w2.heap.size::X):=fun x q=>ak _ q
 have X2:Hid (∀x∈w2.heap.size::X,x∈X∨w.heap.size≤x):=xC;have X3:Hid (∀x∈w2.heap.size::X,x<WA.heap.size):=fun x q=>by
  rcases aB.1 q with rfl|q
  ·omega
  ·have:=HX.out x q;omega
 obtain⟨nP,hnP⟩: ∃n,n=d.P.length:=⟨_,rfl⟩;have ENP:=ah hnP;have c2:=(HH.out.below B2.out).b.d.gC 2;rw[←hnP] at c2 kp1 pl;have LU:Hid (U.length=nP):=by show _=_;rw[hnP];exact HH.out.b.ul
 have SU:Hid (tZ WA qp U):=by have t:=RA.out.b.row;exact t.src
 have OU:Hid (∀u∈U,u.oneCell'=true):=fun u hu=>by
  obtain⟨i,hi⟩:=dh hu;have il:=(au.1 hi).1;obtain⟨m,hm⟩: ∃m,d.P[i]?=some m:=⟨d.P[i]'(by rw[←HH.out.b.ul];exact il),aA _⟩;obtain⟨qq,cc,eq,_⟩:=(HH.out.b.po i u m hi hm).isSlice;rw[eq];rfl
 have KP:Hid (∀w5,Below WA.heap.size WA w5→(w5.cell? ⟨w2.heap.size,0,none⟩=some (.slice qa 4 ca)∧w5.cell? ⟨w2.heap.size,1,none⟩=some (.slice qb m2 cb)∧w5.frozen? ⟨w2.heap.size,0,none⟩=false∧w2.heap.size<w5.heap.size)∧w5.cell? ⟨pd,2,none⟩=some (.slice qp nP kp)∧w5.frozen? ⟨pd,2,none⟩=false∧pd<w5.heap.size∧w5.cell? ⟨w.heap.size,0,none⟩=some (.int .i64 o.1)∧w5.cell? ⟨w.heap.size,1,none⟩=some (.int .i64 o.2)∧w.heap.size<w5.heap.size):=fun w5 b=>by
  have a:=LH.out.go b;have y:=LOA.out.go b;have R5:=RA.out.below b;exact⟨⟨a.gC 0,a.gC 1,a.f 0 sI,a.lt⟩,by rw[ENP.out];exact R5.b.d.gC 2,R5.b.d.f 2 sI,R5.b.d.lt,y.gC 0,y.gC 1,y.lt⟩
 have n6: ¬(pd=w.heap.size):=om;have n7: ¬(w.heap.size=pd):=om;have n8: ¬(w2.heap.size=w.heap.size):=fun q=>n5 q.symm
 have LE0:Hid ((kG ([]:List Ob)).length=0*2):=by show _=_;simp[kV];try omega
 have OE:Hid (∀u∈kG ([]:List Ob),u.oneCell'=true):=pI _;have S0:Hid (∀W,tZ W none (kG ([]:List Ob))):=fun W=>.inl ⟨rfl,rfl⟩
 have MK:Hid (∀w4 q4 k4 WB,Below WA.heap.size WA w4→w4.ownsRow WA.heap.size 38 1 (.slice q4 (nP+1) k4) (nP+1) (U++[.slice qa 4 ca])→WB=(w4.setCell ⟨pd,2,none⟩ (.slice q4 (nP+1) k4)).setCell ⟨w2.heap.size,0,none⟩ (.slice none 0 0)→
  (WA.heap.size≤WB.heap.size∧∀w5,Below WB.heap.size WB w5→(w5.cell? ⟨w2.heap.size,0,none⟩=some (.slice none 0 0)∧w5.cell? ⟨w2.heap.size,1,none⟩=some (.slice qb m2 cb)∧w5.frozen? ⟨w2.heap.size,0,none⟩=false∧w2.heap.size<w5.heap.size)∧(w5.cell? ⟨w.heap.size,0,none⟩=some (.int .i64 o.1)∧w5.cell? ⟨w.heap.size,1,none⟩=some (.int .i64 o.2)∧w.heap.size<w5.heap.size)∧w5.cell? ⟨pd,1,none⟩=some (.slice (some ⟨gh,0,none⟩) nH nH)∧pd<w5.heap.size∧w5.frozen? ⟨gh,k*2,none⟩=false∧w5.frozen? ⟨gh,k*2+1,none⟩=false∧gh<w5.heap.size∧(∃u0,w5.cell? ⟨gh,k*2,none⟩=some u0)∧∃u1,w5.cell? ⟨gh,k*2+1,none⟩=some u1)∧
  ∀w5 q5 k5 W,Below WB.heap.size WB w5→w5.ownsRow WB.heap.size 40 2 (.slice q5 (0+1) k5) (0+1) (kG ([]:List Ob)++[.int .i64 o.1,.int .i64 o.2])→W=(((w5.setCell ⟨w2.heap.size,0,none⟩ (.slice q5 (0+1) k5)).setCell ⟨gh,k*2,none⟩ (.slice q5 (0+1) k5)).setCell ⟨gh,k*2+1,none⟩ (.slice qb m2 cb)).drew→lI X pd gh pc pm gN e mn lw hi O M A w ⟨d.c,d.H.set k ([]++[o],l2),d.P++[l1]⟩ (.int .i64 0) (.returned (.int .i64 0)) W):=fun w4 q4 k4 WB b4 own4 hWB=>by
  obtain⟨wp,hwp⟩:=eY (w4.setCell ⟨pd,2,none⟩ (.slice q4 (nP+1) k4));have RP:=RA.out.push b4 own4 ENP.out RO1.out X3.out hwp;rw[←hwp] at hWB;have z4:=b4.size;have kp4:Keep [pd] w4 wp:=by rw[hwp];exact(Keep.refl _ _).setCell (p:=⟨pd,2,none⟩) (.inl sI) _
  have kb:Keep [w2.heap.size] wp WB:=by rw[hWB];exact(Keep.refl _ _).setCell (p:=⟨w2.heap.size,0,none⟩) (.inl sI) _
  have lh:jD WB w2.heap.size [.slice none 0 0,.slice qb m2 cb]:=by rw[hWB];exact((LH.out.go b4).keep kp4 (by simpa using n4)).store 0 (.slice none 0 0) sI
  have lo:jD WB w.heap.size [.int .i64 o.1,.int .i64 o.2]:=((LOA.out.go b4).keep kp4 (by simp;omega)).keep kb (by simpa using n5);have RB:=RP.keep kb (fun s q=>by simp at q;subst q;exact .inl ⟨aG ..,NRD.out⟩);have zp:=kp4.size;have zb:=kb.size;refine⟨⟨om,fun w5 b=> ?_⟩,fun w5 q5 k5 W b5 own hW=> ?_⟩
  ·have a:=lh.go b
   have y:=lo.go b;have R5:=RB.below b;obtain⟨p5,_,_,_,g0,g1,f0,f1,gl5⟩:=R5.hand HK.out;exact⟨⟨a.gC 0,a.gC 1,a.f 0 sI,a.lt⟩,⟨y.gC 0,y.gC 1,y.lt⟩,by rw[ENH.out];exact R5.b.d.gC 1,R5.b.d.lt,f0,f1,gl5,⟨_,g0⟩,⟨_,g1⟩⟩
  ·have k2:Keep [w2.heap.size] wp (w5.setCell ⟨w2.heap.size,0,none⟩ (.slice q5 (0+1) k5)).drew:=((kb.step b5).setCell (p:=⟨w2.heap.size,0,none⟩) (.inl sI) _).drew
   have x3: ∀x∈w2.heap.size::X,x<wp.heap.size:=fun x q=>by have:=X3.out x q;omega
   have ru0:lG (w2.heap.size::X) w5 (.slice q5 (0+1) k5) (([]:List Ob)++[o]):=by
    rw[←l8] at own;exact pO own (fun g hg q=>by have:=(own.lt g hg).1;have:=x3 g q;omega)
   have ru:=ru0.keep (((Keep.refl [w2.heap.size] w5).setCell (p:=⟨w2.heap.size,0,none⟩) (.inl sI) (.slice q5 (0+1) k5)).drew) (fun s q=>by simp at q;subst q;exact .inl (aG ..));have k1:Keep [pd] w wp:=(Keep.of (BA.out.trans (b4.mono BA.out.size))).then kp4;exact RD.fin RP HKL.out k1 k2 (aG ..) NRD.out z2 X1.out X2.out x3 ru ((RO2.out.below b4).keep kp4 (fun s q=>by simp at q;subst q;exact .inl (RP.b.mem.1))) (hW.trans (by first|rfl|simp only[go_sem]|simp[go_sem]))
 have HWA:=ah hWA;clear hp hWA o1 o2 f0 f1 xC Aq bA h4 l4 HO1 HO2 hp0 hb2 v0 v1 vl hm2 hnP;have u0:=LO2.out.gC 0;have u1:=LO2.out.gC 1;have ul:=LO2.out.lt;go_wp2_with (first
  |(at_builtin;rw[←HWA.out];refine kQ Ui (base:=WA.heap.size) (v:=.slice none 0 0) (us:=[]) (ms:=U) (p:=qp) rf (.tmp 42) (.tmp 46) rf rf 0 nP rf rfl LU.out (aT _ _ _ _) SU.out OU.out om (aH _) ?_;intro q3 k3 w3 hown3 hg3 zm;have b3:Below WA.heap.size WA w3:=(aO _ _).grown hg3 (aH _) (fun r hr=>by cases hr);rw[bH] at hown3 zm;rw[dz] at hown3;obtain⟨⟨h0,h1,hf,hl⟩,y2,yf,yl,_⟩:=KP.out w3 b3;have HO3:=ah hown3;have HB3:=ah b3;clear hown3 hg3 zm b3)
  |(at_builtin;go_loud (refine kQ Ui (base:=WA.heap.size) (v:=.slice q3 nP k3) (us:=U) (ms:=[.slice qa 4 ca]) (p:=some ⟨w3.heap.size,0,none⟩) rf (.tmp 49) (.tmp 52) rf rf nP 1 rf LU.out rfl (HO3.out.alloc _) (sO w3 (.slice qa 4 ca) 38) (by simp;rfl) om (by have:=HB3.out.size;simp;omega) ?_);intro q4 k4 w4 jV hg4 GU;have b4:Below WA.heap.size WA w4:=((HB3.out.alloc HB3.out.size (.cells #[.slice qa 4 ca] 38))).grown hg4 (by have:=HB3.out.size;simp;omega) (fun r hr=>(HO3.out.lt r hr).1);obtain⟨⟨h0',h1',hf',hl'⟩,y2',yf',yl',y0',y1',yz'⟩:=KP.out w4 b4;obtain⟨WB,hWB⟩:=eY ((w4.setCell ⟨pd,2,none⟩ (.slice q4 (nP+1) k4)).setCell ⟨w2.heap.size,0,none⟩ (.slice none 0 0));have MM:=ah (MK.out w4 q4 k4 WB b4 jV hWB);have ZB:Hid (WB.heap.size=w4.heap.size):=(by show _=_;rw[hWB];simp);have HWB:=ah hWB;clear jV hg4 GU b4 hWB)
  |(at_builtin;rw[←HWB.out];go_loud (refine qL rY (base:=WB.heap.size) (v:=.slice none 0 0) (n:=0) (xs:=kG ([]:List Ob)) (ms:=[.int .i64 o.1,.int .i64 o.2]) (ad:=⟨w4.heap.size,0,none⟩) rf (.tmp 61) (.tmp 63) rf rf rf (aT _ _ _ _) rfl (by have t:=nJ WB (.int .i64 o.1) (.int .i64 o.2) 40;rw[ZB.out] at t;exact t) (nK _ _) om sI ?_);intro q5 k5 w5 hown5 hg5 hob5;have b5:Below WB.heap.size WB w5:=((aO WB.heap.size WB).alloc (aH _) (.cells #[.int .i64 o.1,.int .i64 o.2] 40)).grown hg5 sI (fun r hr=>by cases hr);obtain⟨⟨hb0,hb1,hbf,hbl⟩,_,p1,pl1,fg0,fg1,gl5,⟨u0',cg0⟩,⟨u1',cg1⟩⟩:=MM.out.1.2 w5 b5;have FF:=ah (MM.out.2 w5 q5 k5);have HO5:=ah hown5;have HB5:=ah b5;clear hown5 hg5 hob5 b5))
 refine kX 7 kR kR ?_;simp only[aQ,aW,aP,aU];repeat still_step
 refine wpStill_nil ?_;go_wp2;go_ret;exact FF.out _ HB5.out HO5.out rfl
theorem Rb (k:Int) (o:Ob) (h:RD X w pd gh pc pm gN e mn lw hi O M v A V vp U d) (hI:oH e d) (hX: ∀x∈X,x<w.heap.size):
 Calls Tryz.prog 51 #[.pointer (some ⟨pd,0,none⟩),.int .i64 k,.agg #[.int .i64 o.1,.int .i64 o.2]] w (lI X pd gh pc pm gN e mn lw hi O M A w (kK e d k o).1 (.int .i64 (kK e d k o).2)):=by
 cases hh:nY d k with
 |none=>exact Ra k o h hX hh
 |some g=>
  obtain⟨k0,h1,h2,h3⟩:=p8 hh;obtain⟨kn,hkn⟩:=eY k.toNat;rw[←hkn] at h1 h2 h3;subst h3;obtain⟨g1,g2⟩:=g;cases ho:za e d o with
  |false=>exact Ga kn o h hI hX h2 ho
  |true=>
   by_cases q:g1.length=4
   ·cases g2 with
    |nil=>exact rdgive_2 kn o h hI hX (l2:=[]) h1 q ho
    |cons a r=>exact rdgive_3 kn o h hI hX h1 q sI ho
   ·exact rdgive_1 kn o h hI hX h1 q ho
end
structure yO (pd e:Nat) (mn:Int) (O:List (List Int)) (w0:World) extends FEnv De w0 where
 inv: ∀{X F d w},S X F d w→oH e d
 ord: ∀{X F d w},S X F d w→qY O d.c.L.length
 take: ∀{X F d w} (k n:Int) (u:Bool),S X F d w→Calls Tryz.prog 24 #[.pointer (some ⟨pd,0,none⟩),.int .i64 k,.int .i64 n,.bool u] w (EPost S X F (takeD mn O e d k n u).1 w (.tuple #[obV (takeD mn O e d k n u).2.2,.int .i64 (takeD mn O e d k n u).2.1]))
 give: ∀{X F d w} (k:Int) (o:Ob),S X F d w→Calls Tryz.prog 51 #[.pointer (some ⟨pd,0,none⟩),.int .i64 k,.agg #[.int .i64 o.1,.int .i64 o.2]] w (EPost S X F (kK e d k o).1 w (.int .i64 (kK e d k o).2))
 work: ∀{X F d w} (k:Int),S X F d w→Calls Tryz.prog 60 #[.pointer (some ⟨pd,0,none⟩),.int .i64 k] w fun r w'=>r= .returned (.bool (decide (0≤k∧k<d.H.length)))∧w'=w
 node: ∀{X F d w} (v:Int),S X F d w→∃pc pz,w.cell? ⟨pd,0,none⟩=some (.pointer (some ⟨pc,0,none⟩))∧pd<w.heap.size∧w.cell? ⟨pc,0,none⟩=some (.pointer (some ⟨pz,0,none⟩))∧pc<w.heap.size∧
  Calls Tryz.prog 61 #[.pointer (some ⟨pz,0,none⟩),.int .i64 v] w fun r w'=>r= .returned (.bool (decide (0≤v∧v<d.c.L.length)))∧Below w.heap.size w w'
section
variable {w0 w w':World} {X F G Y:List Nat} {pd gh pc pm gN e:Nat} {mn lw hi:Int} {O:List (List Int)} {m m':De} {M:List Nat} {v:Value} {A:SA} {V:HV} {vp:Value} {U:List Value} {r:Value} {en:Ending}
structure RDX (w0:World) (X F:List Nat) (pd gh pc pm gN e:Nat) (mn lw hi:Int) (O:List (List Int)) (M:List Nat) (v:Value) (A:SA) (V:HV) (vp:Value) (U:List Value) (m:De) (w:World):Prop where
 r:RD X w pd gh pc pm gN e mn lw hi O M v A V vp U m
 f: ∀f∈F,f∈X∧f∉rds pd gh pc pm gN A M
 lim: ∀x∈X,w0.heap.size≤x∧x<w.heap.size
 bel:Below w0.heap.size w0 w
 inv:oH e m
def RDS (w0:World) (X F:List Nat) (pd gh pc pm gN e:Nat) (mn lw hi:Int) (O:List (List Int)) (m:De) (w:World):Prop:=∃M v A V vp U,RDX w0 X F pd gh pc pm gN e mn lw hi O M v A V vp U m w
theorem RDX.act (h:RDX w0 X F pd gh pc pm gN e mn lw hi O M v A V vp U m w) (hi':oH e m') (hp:lI X pd gh pc pm gN e mn lw hi O M A w m' r en w'):EPost (fun X F d w=>RDS w0 X F pd gh pc pm gN e mn lw hi O d w) X F m' w r en w':=by
 obtain⟨hr,X',M',v',A',V',vp',U',r1,r2,r3,r4,r5,r6⟩:=hp;have hs:=h.bel.size;have ro: ∀s∈rds pd gh pc pm gN A M,s∈off X F:=fun s q=>jJ.2 ⟨h.r.mem s q,fun t=>(h.f s t).2 q⟩
 refine⟨hr,X',⟨M',v',A',V',vp',U',r1,fun f q=>⟨r3 f (h.f f q).1,fun t=> ?_⟩,fun x q=>⟨?_,r5 x q⟩,h.bel.trans (r2.below hs fun s q=>(h.lim s (h.r.mem s q)).1),hi'⟩,r2.mono ro,r4,r3⟩
 ·rcases r6 f t with u|u
  ·exact(h.f f q).2 u
  ·have:=(h.lim f (h.f f q).1).2;omega
 ·rcases r4 x q with u|u
  ·exact(h.lim x u).1
  ·omega
def envR (w0:World) (pd gh pc pm gN e:Nat) (mn lw hi:Int) (O:List (List Int)):yO pd e mn O w0 where
 S X F m w:=RDS w0 X F pd gh pc pm gN e mn lw hi O m w
 bel:=fun⟨M,v,A,V,vp,U,h⟩=>h.bel
 lim:=fun⟨M,v,A,V,vp,U,h⟩=>h.lim
 qR:=fun⟨M,v,A,V,vp,U,h⟩ f q=>(h.f f q).1
 go:=fun⟨M,v,A,V,vp,U,h⟩ k=>⟨M,v,A,V,vp,U,h.r.below k,h.f,fun x q=>⟨(h.lim x q).1,aC (h.lim x q).2 k.size⟩,h.bel.trans (k.mono h.bel.size),h.inv⟩
 other:=fun⟨M,v,A,V,vp,U,h⟩ k hs=>⟨M,v,A,V,vp,U,h.r.keep k (fun s q=>.inl (h.f s (hs s q))),h.f,fun x q=>⟨(h.lim x q).1,aC (h.lim x q).2 k.size⟩,h.bel.trans (k.below h.bel.size fun s q=>(h.lim s (h.f s (hs s q)).1).1),h.inv⟩
 tQ:=fun⟨M,v,A,V,vp,U,h⟩ k hs hy=>by
  have hz:=h.bel.size;refine⟨M,v,A,V,vp,U,(h.r.more (fun x q=>aj _ q) (fun y q=>(aD.1 q).elim (fun t=>.inr (hy y t).1) .inl)).keep k (fun s q=>.inl ⟨aj _ (h.f s (hs s q)).1,(h.f s (hs s q)).2⟩),fun f q=> ?_,fun x q=> ?_,h.bel.trans (k.below hz fun s q=>(h.lim s (h.f s (hs s q)).1).1),h.inv⟩
  ·rcases aD.1 q with t|t
   ·exact⟨av _ t,fun u=>by have:=h.r.lt f u;have:=(hy f t).1;omega⟩
   ·exact⟨aj _ (h.f f t).1,(h.f f t).2⟩
  ·rcases aD.1 q with t|t
   ·have:=hy x t;exact⟨om,this.2⟩
   ·exact⟨(h.lim x t).1,aC (h.lim x t).2 k.size⟩
 uI:=fun⟨M,v,A,V,vp,U,h⟩ hg=>⟨M,v,A,V,vp,U,h.r,fun f q=>h.f f (hg f q),h.lim,h.bel,h.inv⟩
 inv:=fun⟨M,v,A,V,vp,U,h⟩=>h.inv
 ord:=fun⟨M,v,A,V,vp,U,h⟩=>h.r.c.z.ord
 take:=fun k n u ⟨M,v,A,V,vp,U,h⟩=>(QX k n u h.r h.inv (fun x q=>(h.lim x q).2)).mono fun r w' hp=>h.act (qI h.r.c.z.ord h.inv) hp
 give:=fun k o ⟨M,v,A,V,vp,U,h⟩=>(Rb k o h.r h.inv (fun x q=>(h.lim x q).2)).mono fun r w' hp=>h.act (xw h.inv) hp
 work:=fun k ⟨M,v,A,V,vp,U,h⟩=>h.r.worker k
 node:=fun k ⟨M,v,A,V,vp,U,h⟩=>⟨pc,pm,h.r.b.d.gC 0,h.r.b.d.lt,h.r.c.b.c.gC 0,h.r.c.b.c.lt,tV pm gN mn lw hi O M _ k _ h.r.c.z⟩
end
end Go.Proofs.YtehhldljdakgeaaGreatDoor
