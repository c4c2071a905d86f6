/- Lemmas and contracts for the claim's last text: DLast, ZMinA, DLoaded, MagLastA, RDLie, RDBack. -/
import Derived.Test.YtdcbhlcbiokbeaaGreatDoorMa01
import Derived.Test.YtdcbhlcbiokbeaaGreatDoorMa10
import Derived.Test.YtdcbhlcbiokbeaaGreatDoorMa11
import Derived.Test.YtdcbhlcbiokbeaaGreatDoorMa14
import Derived.Test.YtdcbhlcbiokbeaaGreatDoorMa19
set_option linter.unusedSimpArgs false
set_option linter.unusedVariables false
set_option maxHeartbeats 16000000
set_option maxRecDepth 100000
namespace Go.Proofs.YtdcbhlcbiokbeaaGreatDoor
section
def h0 (l:List Ob) (i:Nat):Hd:=if i≤4 then(l.take i,[]) else((l.take i).drop 4,l.take 4)
def stH (l:List Ob) (i:Nat) (h:Hd):Prop:=h=h0 l i∨(i=4∧h=([],l.take 4))
theorem mD {l:List Ob} {i:Nat} {o:Ob} (h:l[i]?=some o):l.take (i+1)=l.take i++[o]:=by rw[bH,h];rfl
theorem GJ {l:List Ob} {i:Nat} {o:Ob} (hl:l.length≤8) (ho:l[i]?=some o):
 ((jw (h0 l i) []).1.1++[o],(jw (h0 l i) []).1.2)=h0 l (i+1)∧(jw (h0 l i) []).2=[]:=by
 have hi:=(aj.1 ho).1
 rcases fH i 4 with q|q|q
 ·have e:h0 l i=(l.take i,[]):=by unfold h0;rw[if_pos om]
  have f:jw (h0 l i) []=((l.take i,[]),[]):=by
   rw[e];unfold jw
   rw[if_neg (by simp only[aQ];omega)]
  rw[f]
  refine⟨?_,rfl⟩
  unfold h0
  rw[if_pos om,mD ho]
 ·subst q
  have e:h0 l 4=(l.take 4,[]):=by unfold h0;rw[if_pos om]
  have f:jw (h0 l 4) []=(([],l.take 4),[]):=by
   rw[e];unfold jw
   rw[if_pos (by simp only[aQ];omega),if_pos rfl]
  rw[f]
  refine⟨?_,rfl⟩
  unfold h0
  rw[if_neg om,mD ho,eD (by rw[aQ];omega),dN (by rw[aQ];omega)]
 ·have e:h0 l i=((l.take i).drop 4,l.take 4):=by unfold h0;rw[if_neg om]
  have f:jw (h0 l i) []=(((l.take i).drop 4,l.take 4),[]):=by
   rw[e];unfold jw
   rw[if_neg (by simp only[aQ,cB];omega)]
  rw[f]
  refine⟨?_,rfl⟩
  unfold h0
  rw[if_neg om,mD ho,eD (by rw[aQ];omega)]
theorem pop_step {l:List Ob} {i:Nat} {o:Ob} {h:Hd} (hl:l.length≤8) (ho:l[i]?=some o) (hs:stH l (i+1) h):
 (je h []).1.1.getLast?=some o∧stH l i ((je h []).1.1.dropLast,(je h []).1.2)∧(je h []).2=[]:=by
 have hi:=(aj.1 ho).1
 rcases hs with rfl|⟨q,rfl⟩
 ·by_cases q:i+1≤4
  ·have e:h0 l (i+1)=(l.take i++[o],[]):=by unfold h0;rw[if_pos q,mD ho]
   have f:je (h0 l (i+1)) []=((l.take i++[o],[]),[]):=by rw[e];unfold je;rw[if_neg sI]
   rw[f]
   refine⟨sI,.inl ?_,rfl⟩
   unfold h0
   rw[if_pos om]
   simp
  ·have e:h0 l (i+1)=((l.take i).drop 4++[o],l.take 4):=by
    unfold h0
    rw[if_neg q,mD ho,eD (by rw[aQ];omega)]
   have f:je (h0 l (i+1)) []=(((l.take i).drop 4++[o],l.take 4),[]):=by rw[e];unfold je;rw[if_neg sI]
   rw[f]
   refine⟨sI,?_,rfl⟩
   simp only[List.dropLast_concat]
   by_cases q4:i=4
   ·subst q4
    exact .inr ⟨rfl,by rw[dN (by rw[aQ];omega)]⟩
   ·left
    unfold h0
    rw[if_neg om]
 ·obtain rfl:i=3:=by omega
  have e:l.take 4=l.take 3++[o]:=mD ho
  have f:je (([],l.take 4):Hd) []=((l.take 3++[o],[]),[]):=by
   rw[e];unfold je
   rw[if_pos rfl,if_neg sI]
  rw[f]
  refine⟨sI,.inl ?_,rfl⟩
  unfold h0
  rw[if_pos om]
  simp
section
variable {e n p:Nat} {d:De} {k:Int}
theorem qg.ord {c:Ca} (h:qg p e n c) (hO:vV [[0]] 1):vV [[0]] c.L.length:=by
 obtain⟨x,hx,_⟩:=h.one
 rw[hx];exact hO
theorem GK (hO:vV [[0]] 1) (hI:jY e d) (hF:qg p e n d.c) (hn:n<p*iM e) (hk:jI d k=some ([],[])) (hP:d.P=[]):
 (takeD 0 [[0]] e d k 0 true).2.1=0∧(takeD 0 [[0]] e d k 0 true).2.2∉jQ e d.c.C∧(∀x,x∈jQ e (takeD 0 [[0]] e d k 0 true).1.c.C↔x=(takeD 0 [[0]] e d k 0 true).2.2∨x∈jQ e d.c.C)∧
 (takeD 0 [[0]] e d k 0 true).1.H=d.H∧(takeD 0 [[0]] e d k 0 true).1.P=[]∧qg p e (n+1) (takeD 0 [[0]] e d k 0 true).1.c∧jY e (takeD 0 [[0]] e d k 0 true).1:=by
 have ld:(je ([],[]) d.P).1.1.getLast?=none:=by rw[hP];rfl
 have hi:=rE (mn:=0) (O:=[[0]]) (k:=k) (v:=0) (u:=true) (hF.ord hO) hI
 rw[jW hk ld] at hi ⊢
 obtain⟨t1,t2,t3⟩:=hF.take (mn:=0) (O:=[[0]]) hO hn
 rcases xW (mn:=0) (O:=[[0]]) (hF.ord hO) hI.c 0 true with⟨_,q1,q2⟩|⟨q,_⟩
 ·exact⟨t1,q1,q2,rfl,hP,t3,hi⟩
 ·exact absurd t1 q
theorem ls_pop {l:List Ob} {i:Nat} {o:Ob} {h:Hd} {R:List Hd} (hl:l.length≤8) (ho:l[i]?=some o) (hs:stH l (i+1) h) (hH:d.H=h::R) (hP:d.P=[]):
 (takeD 0 [[0]] e d 0 0 true).2=(0,o)∧(∃h',(takeD 0 [[0]] e d 0 0 true).1.H=h'::R∧stH l i h')∧(takeD 0 [[0]] e d 0 0 true).1.P=[]∧(takeD 0 [[0]] e d 0 0 true).1.c=d.c:=by
 have hk:jI d 0=some h:=by unfold jI;rw[if_neg om,hH];rfl
 obtain⟨p1,p2,p3⟩:=pop_step hl ho hs
 rw[jD hk (o:=o) (by rw[hP];exact p1),hP,hH]
 exact⟨rfl,⟨_,rfl,p2⟩,p3,rfl⟩
theorem GL {l:List Ob} {i:Nat} {o:Ob} {R:List Hd} (hl:l.length≤8) (ho:l[i]?=some o) (hH:d.H=h0 l i::R) (hP:d.P=[]) (hout:vB e d o=true):
 (iU e d 0 o).2=0∧(iU e d 0 o).1.H=h0 l (i+1)::R∧(iU e d 0 o).1.P=[]∧(iU e d 0 o).1.c=d.c:=by
 have hk:jI d 0=some (h0 l i):=by unfold jI;rw[if_neg om,hH];rfl
 obtain⟨p1,p2⟩:=GJ hl ho
 have:iU e d 0 o=(⟨d.c,d.H.set (0:Int).toNat ((jw (h0 l i) d.P).1.1++[o],(jw (h0 l i) d.P).1.2),(jw (h0 l i) d.P).2⟩,0):=by unfold iU;rw[hk];simp only[hout,if_true]
 rw[this,hP,hH,p1,p2]
 exact⟨rfl,rfl,rfl,rfl⟩
theorem h0_mem {l:List Ob} {i:Nat} {x:Ob}:x∈(h0 l i).1++(h0 l i).2→x∈l.take i:=by
 unfold h0
 split
 ·simp
 ·intro h
  rcases aG.1 h with q|q
  ·exact eu q
  ·have:l.take 4=(l.take i).take 4:=by rw[List.take_take];congr 1;omega
   simp only at q
   rw[this] at q
   exact d9 q
theorem ls_out {l:List Ob} {i:Nat} {o:Ob} {R:List Hd} (hR:jf R=[]) (hnd:l.Nodup) (ho:l[i]?=some o) (hH:d.H=h0 l i::R) (hP:d.P=[]) (hs: ∀x∈l,x∈jQ e d.c.C):vB e d o=true:=by
 refine Cc.2 ⟨hs o (aB ho),fun q=> ?_⟩
 unfold held at q
 rw[hH,hP] at q
 have e1:jf (h0 l i::R)=(h0 l i).1++(h0 l i).2++jf R:=by unfold jf;rw[gL]
 rw[e1,hR] at q
 simp only[dF,List.flatten_nil] at q
 have hm:=h0_mem q
 obtain⟨j,hj,hg⟩:=fT.1 hm
 have hj':j<i:=by rw[aQ] at hj;omega
 rw[List.getElem_take] at hg
 have hi:=(aj.1 ho)
 obtain⟨hil,hie⟩:=hi
 have:=bT.1 hnd j i om hil hj'
 rw[hg,hie] at this
 exact this rfl
end
end
section
open Go.RowKit Go.Maps
end
section
open Go.RowKit Go.Maps
attribute [local go_sem ↓] aW aX
theorem GQ {e:Nat} {c:Ca} (h:l8 e c) {o:Ob} (ho:o∈jQ e c.C): -9223372036854775808≤o.2∧o.2≤9223372036854775807:=by
 have:=ob_one h ho
 omega
theorem Dx {B:Nat} {ev:Nat→Addr} (w:World) (hE:tJ B ev w):
 Calls Tryz.prog 34 #[] w fun e w'=>e= .returned (.bool true)∧Below w.heap.size w w':=by
 have hB:=hE.size
 have eb:=eqO;have gb:=vg
 have HE:=ah hE
 clear hE
 go_enter Tryz.func34,Tryz.ntmps34
 go_wp2_with fail
 refine(one_ok (X:=[]) 1 w (fun x hx=>by cases hx)).mono ?_
 rintro e w1 ⟨vP,vN,rfl,hcfg,hb1⟩
 have z1:=hb1.size
 have HC:=ah hcfg
 clear hcfg
 go_wp2_with fail
 refine(oneZone vP vN 1 w1 (HE.out.z.go hb1).c HC.out om om).mono ?_
 rintro e w2 ⟨pz,x,rfl,hz,hpz,hn,hF,hT,hb2⟩
 have z2:=hb2.size
 have hI:=(hz.b.bud x sI).2
 have F0:=qg.start (pages:=1) (e:=8) hI om om hF
 have HF0:=ah F0;have HZ:=ah hz
 have B12:=ah (hb1.trans (hb2.mono z1))
 clear hz hI hF hT hn F0 hb1 hb2
 go_wp2_with fail
 refine(show Calls Tryz.prog 20 #[.pointer (some ⟨pz,0,none⟩),.int .i64 8] w2 _ from Fu pz 8 w2 om om).mono ?_
 rintro e w3 ⟨rfl,hw3⟩
 have C0:=CS.new HZ.out sI z2 8
 have b3:Below w2.heap.size w2 w3:=by rw[hw3];exact iB
 rw[←hw3] at C0
 have z3:=b3.size
 have HC0:=ah C0
 have B13:=ah (B12.out.trans (b3.mono om))
 clear C0 hw3 b3
 go_wp2_with fail
 refine(show Calls Tryz.prog 35 #[.pointer (some ⟨w2.heap.size,0,none⟩),.int .i64 1] w3 _ from Ga w2.heap.size 1 w3 om om).mono ?_
 rintro e w4 ⟨rfl,hw4⟩
 have D0:=CD.start HC0.out om 1 hw4
 have b4:Below w3.heap.size w3 w4:=by rw[hw4];exact iB
 have z4:=b4.size
 have E4:=ah ((HE.out.go (B13.out.trans (b4.mono om))).up (B':=w1.heap.size) om om)
 have P0:=ah (show DpS w1.heap.size w4 (w3.heap.size+1) w2.heap.size pz w3.heap.size 0 0 0 [[0]] 8 _ [] ⟨⟨[x],[]⟩,List.replicate 1 ([],[]),[]⟩ w4 from⟨D0,jY.start HF0.out.inv 1 om om,aJ _ _⟩)
 have B14:=ah (B13.out.trans (b4.mono om))
 clear D0 hw4 b4
 have hO:vV [[0]] 1:=by simpa using HZ.out.ord
 have rm:iM 8=8:=by decide
 have HO:=ah hO
 obtain⟨t1,t2,t3,t4,t5,t6,t7⟩:=GK (k:=0) hO P0.out.inv HF0.out (by rw[rm];omega) rf rfl
 have TK:=y7 0 0 true E4.out P0.out
 obtain⟨⟨d1,q1,a⟩,hr1⟩: ∃r,r=takeD 0 [[0]] 8 ⟨⟨[x],[]⟩,List.replicate 1 ([],[]),[]⟩ 0 0 true:=⟨_,rfl⟩
 rw[←hr1] at t1 t2 t3 t4 t5 t6 t7 TK
 simp only at t1 t2 t3 t4 t5 t6 t7 TK
 subst t1
 simp only[obV,jB] at TK
 have HTK:=ah TK;have T3:=ah t3;have T4:=ah t4;have T5:=ah t5;have T6:=ah t6;have T7:=ah t7
 clear TK t2 t3 t4 t5 t6 t7 hr1
 go_wp2_with fail
 refine HTK.out.mono ?_
 rintro e w5 ⟨rfl,K5,X1,X1n,X1m,P1⟩
 have b5':Below w5.heap.size w5 (w5.alloc (.cells #[.int .i64 a.1,.int .i64 a.2] 49)):=iB
 have z5:=P1.bel.size
 have HP1:=ah (P1.go om b5')
 have LA:=ah (show iy (w5.alloc (.cells #[.int .i64 a.1,.int .i64 a.2] 49)) w5.heap.size [.int .i64 a.1,.int .i64 a.2] from iy.mk_ w5 [.int .i64 a.1,.int .i64 a.2] 49 rfl)
 have N1:Hid (w5.heap.size∉X1):=fun q=>by have:=(P1.cd.lim _ q).2;omega
 clear K5 X1n P1 b5' HTK P0
 obtain⟨t1,t2,t3,t4,t5,t6,t7⟩:=GK (k:=0) HO.out T7.out T6.out (by rw[rm];omega) (by unfold jI;rw[if_neg om,T4.out];rfl) T5.out
 have TK:=y7 0 0 true E4.out HP1.out
 obtain⟨⟨d2,q2,b⟩,hr2⟩: ∃r,r=takeD 0 [[0]] 8 d1 0 0 true:=⟨_,rfl⟩
 rw[←hr2] at t1 t2 t3 t4 t5 t6 t7 TK
 simp only at t1 t2 t3 t4 t5 t6 t7 TK
 subst t1
 simp only[obV,jB] at TK
 have hab:a≠b:=fun q=>t2 ((T3.out b).2 (.inl q.symm))
 have HTK:=ah TK;have U3:=ah t3;have U4:=ah t4;have U5:=ah t5;have U7:=ah t7;have HAB:=ah hab
 clear TK t2 t3 t4 t5 t6 t7 hr2
 go_wp2_with fail
 refine HTK.out.mono ?_
 rintro e w6 ⟨rfl,K6,X2,X2n,X2m,P2⟩
 have b6':Below w6.heap.size w6 (w6.alloc (.cells #[.int .i64 b.1,.int .i64 b.2] 49)):=iB
 have z6:=P2.bel.size
 have z56:=K6.size
 simp at z56
 have HP2:=ah (P2.go om b6')
 have LA2:=ah ((LA.out.keep K6 (fun q=>N1.out (iQ.1 q).1)).go b6')
 have LB:=ah (show iy (w6.alloc (.cells #[.int .i64 b.1,.int .i64 b.2] 49)) w6.heap.size [.int .i64 b.1,.int .i64 b.2] from iy.mk_ w6 [.int .i64 b.1,.int .i64 b.2] 49 rfl)
 have N2:Hid (w6.heap.size∉X2):=fun q=>by have:=(P2.cd.lim _ q).2;omega
 have N2':Hid (w5.heap.size∉X2):=fun q=>by
  rcases X2n _ q with r|r
  ·exact N1.out r
  ·simp at r;omega
 clear K6 X2n P2 b6' HTK HP1 LA
 have g0:=LA2.out.c 0 _ rfl;have g1:=LA2.out.c 1 _ rfl;have gl:=LA2.out.lt
 have k0:=LB.out.c 0 _ rfl;have k1:=LB.out.c 1 _ rfl;have kl:=LB.out.lt
 have hne:(a.1==b.1&&a.2==b.2)=false:=by
  cases q:(a.1==b.1&&a.2==b.2) with
  |false=>rfl
  |true=>
   simp at q
   exact absurd (Prod.ext q.1 q.2) HAB.out
 have hd2:d2.H=h0 [a,b] 0::[]:=by rw[U4.out,T4.out];rfl
 have nd2:[a,b].Nodup:=by simp[HAB.out]
 have sub2: ∀y∈[a,b],y∈jQ 8 d2.c.C:=fun y hy=>by
  simp at hy
  rcases hy with rfl|rfl
  ·exact(U3.out _).2 (.inr ((T3.out _).2 (.inl rfl)))
  ·exact(U3.out _).2 (.inl rfl)
 have o1:=ls_out (e:=8) (i:=0) (o:=a) rf nd2 rf hd2 U5.out sub2
 obtain⟨v1,v2,v3,v4⟩:=GL (e:=8) (i:=0) (o:=a) sI rf hd2 U5.out o1
 have f1:=GQ U7.out.c (sub2 a sI)
 have f2:=GQ U7.out.c (sub2 b sI)
 have GV:=AP 0 a E4.out HP2.out f1.1 f1.2
 have I3:=vC (k:=0) (o:=a) U7.out
 obtain⟨⟨d3,c3⟩,hr3⟩: ∃r,r=iU 8 d2 0 a:=⟨_,rfl⟩
 rw[←hr3] at v1 v2 v3 v4 GV I3
 simp only at v1 v2 v3 v4 GV I3
 subst v1
 simp only[jB] at GV
 have sub3: ∀y∈[a,b],y∈jQ 8 d3.c.C:=fun y hy=>by rw[v4];exact sub2 y hy
 have HGV:=ah GV
 have HS3:=ah sub3;have V2:=ah v2;have V3:=ah v3;have HI3:=ah I3;have ND:=ah nd2;have HF2:=ah f2
 clear GV sub2 sub3 v2 v3 v4 I3 hr3 hd2 o1 f1 f2 nd2
 go_wp2_with fail
 refine HGV.out.mono ?_
 rintro e w7 ⟨rfl,K7,X3,X3n,X3m,P3⟩
 have z7:=P3.bel.size
 have z67:=K7.size
 simp at z67
 have HP3:=ah P3
 have LA3:=ah (LA2.out.keep K7 (fun q=>N2'.out (iQ.1 q).1))
 have LB3:=ah (LB.out.keep K7 (fun q=>N2.out (iQ.1 q).1))
 have N3:Hid (w6.heap.size∉X3):=fun q=>by
  rcases X3n _ q with r|r
  ·exact N2.out r
  ·simp at r;omega
 have N3':Hid (w5.heap.size∉X3):=fun q=>by
  rcases X3n _ q with r|r
  ·exact N2'.out r
  ·simp at r;omega
 clear K7 X3n P3 HGV HP2 LA2 LB g0 g1 gl k0 k1 kl
 have k0:=LB3.out.c 0 _ rfl;have k1:=LB3.out.c 1 _ rfl;have kl:=LB3.out.lt
 have o2:=ls_out (e:=8) (i:=1) (o:=b) rf ND.out rf V2.out V3.out HS3.out
 obtain⟨v1,v2,v3,v4⟩:=GL (e:=8) (i:=1) (o:=b) sI rf V2.out V3.out o2
 have GV:=AP 0 b E4.out HP3.out HF2.out.1 HF2.out.2
 have I4:=vC (k:=0) (o:=b) HI3.out
 obtain⟨⟨d4,c4⟩,hr4⟩: ∃r,r=iU 8 d3 0 b:=⟨_,rfl⟩
 rw[←hr4] at v1 v2 v3 v4 GV I4
 simp only at v1 v2 v3 v4 GV I4
 subst v1
 simp only[jB] at GV
 have HGV:=ah GV
 have W2:=ah v2;have W3:=ah v3;have HI4:=ah I4
 clear GV v2 v3 v4 I4 hr4 o2
 go_wp2_with fail
 refine HGV.out.mono ?_
 rintro e w8 ⟨rfl,K8,X4,X4n,X4m,P4⟩
 have z8:=P4.bel.size
 have z78:=K8.size
 have HP4:=ah P4
 have LB4:=ah (LB3.out.keep K8 (fun q=>N3.out (iQ.1 q).1))
 have N4:Hid (w6.heap.size∉X4):=fun q=>by
  rcases X4n _ q with r|r
  ·exact N3.out r
  ·omega
 clear K8 X4n P4 HGV HP3 LA3 LB3 k0 k1 kl
 obtain⟨p1,⟨hh,p2,p2'⟩,p3,p4⟩:=ls_pop (e:=8) (i:=1) (o:=b) (h:=h0 [a,b] 2) (R:=[]) sI rf (.inl rfl) W2.out W3.out
 have TK:=y7 0 0 true E4.out HP4.out
 have I5:=rE (mn:=0) (O:=[[0]]) (k:=0) (v:=0) (u:=true) HP4.out.ord HI4.out
 obtain⟨⟨d5,q5,b'⟩,hr5⟩: ∃r,r=takeD 0 [[0]] 8 d4 0 0 true:=⟨_,rfl⟩
 rw[←hr5] at p1 p2 p3 p4 TK I5
 simp only at p1 p2 p3 p4 TK I5
 obtain⟨rfl,rfl⟩:=Prod.mk.inj p1
 simp only[obV,jB] at TK
 have hhe:hh=([a],[]):=by
  rcases p2' with q|⟨q,_⟩
  ·rw[q];rfl
  ·omega
 subst hhe
 have HTK:=ah TK;have Y2:=ah p2;have Y3:=ah p3;have HI5:=ah I5
 clear TK p1 p2 p2' p3 p4 hr5 I5
 go_wp2_with fail
 refine HTK.out.mono ?_
 rintro e w9 ⟨rfl,K9,X5,X5n,X5m,P5⟩
 have z9:=P5.bel.size
 have z89:=K9.size
 have b9':Below w9.heap.size w9 (w9.alloc (.cells #[.int .i64 b'.1,.int .i64 b'.2] 49)):=iB
 have HP5:=P5.go om b9'
 have LB5:=ah ((LB4.out.keep K9 (fun q=>N4.out (iQ.1 q).1)).go b9')
 have LX:=ah (show iy (w9.alloc (.cells #[.int .i64 b'.1,.int .i64 b'.2] 49)) w9.heap.size [.int .i64 b'.1,.int .i64 b'.2] from iy.mk_ w9 [.int .i64 b'.1,.int .i64 b'.2] 49 rfl)
 have HD:=dp_held HP5 (by simp;omega)
 rw[Y2.out,Y3.out] at HD
 have hn1:lG (([a],[])::[])=1:=rfl
 rw[hn1] at HD
 have HHD:=ah HD
 clear K9 X5n P5 b9' HTK HP4 LB4 HD HP5 hn1
 go_wp2_with fail
 refine HHD.out.mono ?_
 rintro e w10 ⟨rfl,hb10,P6⟩
 have M1:=LB5.out.go hb10;have M2:=LX.out.go hb10
 have k0:=M1.c 0 _ rfl;have k1:=M1.c 1 _ rfl;have kl:=M1.lt;have l0:=M2.c 0 _ rfl;have l1:=M2.c 1 _ rfl;have ll:=M2.lt
 have FB:=ah (B14.out.trans (P6.bel.mono om))
 clear M1 M2 HHD P6 hb10
 go_wp2
 go_ret
 exact⟨sI,FB.out⟩
end
section
open Go.RowKit Go.Maps
attribute [local go_sem ↓] aW aX
theorem AY {base:Nat} {w:World} {q:Option Addr} {k:Nat} {l:List Ob} (h:w.ownsRow base 49 2 (.slice q l.length k) l.length (jc l)) {j:Nat} {o:Ob} (hj:l[j]?=some o):
 ∃g,q=some ⟨g,0,none⟩∧l.length≤k∧k≤maxLen∧g<w.heap.size∧w.cell? ⟨g,j*2,none⟩=some (.int .i64 o.1)∧w.cell? ⟨g,j*2+1,none⟩=some (.int .i64 o.2):=by
 have r:=nG (X:=[]) h (fun _ _ q=>by cases q)
 obtain⟨p,cap,e,c1,c2⟩:=r.isSlice
 injection e with e1 e2 e3
 subst e1 e3
 rcases h.2 with⟨e4,h3⟩|⟨g',cap',cur,e4,_⟩
 ·have:=(aj.1 hj).1;omega
 ·injection e4 with e5 e6 e7
  subst e5
  obtain⟨g,off,t,_,gl,k0,k1⟩:=r.at hj
  injection t with t;injection t with t1 t2
  subst t1 t2
  rw[bO] at k0 k1
  exact⟨_,rfl,c1,c2,gl,k0,k1⟩
structure LsI (e i:Nat) (l:List Ob) (d:De):Prop where
 f:qg 8 e i d.c
 h:d.H=[([],[]),([],[])]
 p:d.P=[]
 nd:l.Nodup
 sub: ∀x∈l,x∈jQ e d.c.C
 len:l.length=i
structure LsG (e M i:Nat) (l:List Ob) (d:De):Prop where
 f:qg 8 e M d.c
 h:d.H=h0 l i::[([],[])]
 p:d.P=[]
 nd:l.Nodup
 sub: ∀x∈l,x∈jQ e d.c.C
 len:l.length=M
structure LsP (e t:Nat) (l:List Ob) (d:De):Prop where
 h: ∃g R,d.H=g::R∧stH l t g
 p:d.P=[]
end
section
open Go.RowKit Go.Maps
attribute [local go_sem ↓] aW aX
section
variable {X Y S M M' F G:List Nat} {w w' w0:World} {ev:Nat→Addr} {pd gh pc pm gN e:Nat} {mn lw hi:Int} {O:List (List Int)} {v v' vp vp':Value} {A A':SA} {V V':HV} {U U':List Value} {d d':De} {c c':Ca}
theorem Dy (o:Ob) (h:RC X w pc pm gN e mn lw hi O M v A c) (hI:l8 e c):
 Calls Tryz.prog 233 #[.pointer (some ⟨pc,0,none⟩),.agg #[.int .i64 o.1,.int .i64 o.2]] w fun r w'=>r= .returned (.bool (decide (o∈jQ e c.C)))∧Below w.heap.size w w':=by
 obtain⟨wa,hwa⟩: ∃wa,wa=w.alloc (.cells #[.int .i64 o.1,.int .i64 o.2] 49):=⟨_,rfl⟩
 have ba:Below w.heap.size w wa:=by rw[hwa];exact iB
 have LA:=ah (show iy wa w.heap.size [.int .i64 o.1,.int .i64 o.2] from by rw[hwa];exact iy.mk_ w [.int .i64 o.1,.int .i64 o.2] 49 rfl)
 have TK:=ah (zN (h.below ba) hI)
 have few:=jy hI
 obtain⟨l,hl⟩: ∃l,l=jQ e c.C:=⟨_,rfl⟩
 rw[←hl] at few TK ⊢
 obtain⟨bb,hbb⟩: ∃bb,bb=decide (o∈l):=⟨_,rfl⟩
 have HBB:=ah hbb
 rw[←hbb]
 have BA:=ah ba
 clear h hI hl hbb ba
 go_enter Tryz.func233,Tryz.ntmps233
 go_wp2_with fail
 rw[←hwa]
 refine TK.out.mono ?_
 rintro r w1 ⟨v1,rfl,hown,hb1⟩
 obtain⟨q,k,rfl⟩: ∃q k,v1= .slice q l.length k:=by
  rcases hown.2 with⟨e1,e2⟩|⟨g,cap,cur,e1,_⟩
  ·exact⟨none,0,by rw[e1,e2]⟩
  ·exact⟨_,cap,e1⟩
 have HO:=ah hown
 have B1:=ah (BA.out.trans (hb1.mono BA.out.size))
 have L1:=ah (LA.out.go hb1)
 have z1:=B1.out.size
 clear hown hb1 TK LA BA hwa
 go_wp2_with fail
 go_loopw [6] (fun iv wr=>∃i:Nat,i≤l.length∧iv= .int .i64 i∧Below w1.heap.size w1 wr∧Hid (∀(j:Nat) (x:Ob),j<i→l[j]?=some x→x≠o)) (fun iv _=>l.length-(intOf iv).toNat)
 case atStart=>exact⟨0,aO _,by go_num,aJ _ _,fun j x hj=>om⟩
 case round=>
  obtain⟨i,hi,rfl,hb,HNO⟩:=hrel
  have zr:=hb.size
  by_cases hlt:i<l.length
  ·obtain⟨x,hx⟩: ∃x,l[i]?=some x:=⟨l[i],au hlt⟩
   have own':=iE HO.out (Keep.of (S:=[]) hb) (fun s hs=>by cases hs)
   obtain⟨g,eg,k1,k2,gl,y0,y1⟩:=AY own' hx
   subst eg
   unfold maxLen at k2
   have hli:(i:Int)<(l.length:Int):=om
   have hl0:(0:Int)≤(i:Int):=om
   have M6:=L1.out.go hb
   have x0:=M6.c 0 _ rfl;have x1:=M6.c 1 _ rfl;have xl:=M6.lt
   have eb:=eqO;have gb:=vg
   have HB:=ah hb
   have HXX:=ah hx
   clear own' hx k1 M6 hb
   cases hq:(x.1==o.1&&x.2==o.2) with
   |true=>
    have hxo:x=o:=by simp at hq;exact Prod.ext hq.1 hq.2
    have hbt:bb=true:=by rw[HBB.out];exact decide_eq_true (by rw[←hxo];exact aB HXX.out)
    subst hbt
    clear hxo
    go_wp2_with fail
    go_quiet (fail)
    go_wp2
    go_ret
    exact⟨rfl,B1.out.trans (fO (HB.out.trans iB) z1)⟩
   |false=>
    have hxo:Hid (x≠o):=fun q=>by subst q;simp at hq
    go_wp2_with fail
    go_quiet (fail)
    go_wp2
    go_round
    case rel=>exact⟨i+1,om,by go_num,HB.out.trans iB,fun j y hj hy=>by
     rcases Nat.lt_succ_iff_lt_or_eq.1 hj with q|q
     ·exact HNO.out j y q hy
     ·subst q;rw[HXX.out] at hy;obtain rfl:=aH hy;exact hxo.out⟩
    case measure=>simp[intOf];omega
  ·have hbt:bb=false:=by
    rw[HBB.out]
    refine decide_eq_false fun q=> ?_
    obtain⟨j,hj⟩:=bR q
    have:=(aj.1 hj).1
    exact HNO.out j o om hj rfl
   subst hbt
   have HB:=ah hb
   clear hb
   go_wp2
   go_ret
   exact⟨rfl,B1.out.trans (fO HB.out z1)⟩
theorem Dz {H:List Hd} {i:Nat} {h:Hd} (hs:H[i]?=some h):jf (H.take (i+1))=jf (H.take i)++h.1++h.2:=by
 rw[bH,hs]
 unfold jf
 simp
theorem qw (H:List Hd) (i:Nat):(jf (H.take i)).length≤(jf H).length:=by
 have:jf H=jf (H.take i)++jf (H.drop i):=by unfold jf;rw[←List.flatMap_append,bP]
 rw[this,aU];omega
theorem rJ (P:List (List Ob)) (i:Nat):((P.take i).flatten).length≤P.flatten.length:=by
 have:P.flatten=(P.take i).flatten++(P.drop i).flatten:=by rw[←List.flatten_append,bP]
 rw[this,aU];omega
theorem rlie_ok (h:RD X w pd gh pc pm gN e mn lw hi O M v A V vp U d) (hI:jY e d):
 Calls Tryz.prog 232 #[.pointer (some ⟨pd,0,none⟩)] w fun r w'=>∃v,r= .returned v∧OwnO w w' v (held d):=by
 have few:(held d).length≤65536:=bN (ji hI).2 (jy hI.c)
 have hHP:(held d).length=(jf d.H).length+d.P.flatten.length:=by unfold held;rw[aU]
 have HH:=ah h
 have nH4:=hI.hl
 have pP:d.P.length≤65536:=by have:=(ji hI).1;have:=jy hI.c;omega
 obtain⟨qp,kp,evp,kp1,kp2,_⟩:=h.pile
 subst evp
 have c1:=h.b.d.c 1 _ rfl;have c2:=h.b.d.c 2 _ rfl;have cl:=h.b.d.lt
 obtain⟨H,hH⟩: ∃H,H=d.H:=⟨_,rfl⟩
 obtain⟨P,hP⟩: ∃P,P=d.P:=⟨_,rfl⟩
 obtain⟨nH,hnH⟩: ∃n,n=d.H.length:=⟨_,rfl⟩
 obtain⟨nP,hnP⟩: ∃n,n=d.P.length:=⟨_,rfl⟩
 have EH:=ah hH;have EP:=ah hP;have ENH:=ah hnH;have ENP:=ah hnP
 have HLD:Hid (held d=jf H++P.flatten):=by show _=_;rw[hH,hP];rfl
 rw[←hH,←hP] at hHP
 rw[←hnH] at c1 nH4
 rw[←hnP] at c2 pP kp1
 unfold maxLen at kp2
 clear h hI hH hP hnH hnP
 go_enter Tryz.func232,Tryz.ntmps232
 go_wp2_with fail
 go_loopw [3,4] (fun lv iv wr=>∃(i N:Nat) (q:Option Addr) (k:Nat),i≤nH∧iv= .int .i64 i∧lv= .slice q N k∧N≤65536∧Hid (N=(jf (H.take i)).length)∧Hid (wr.ownsRow w.heap.size 49 2 (.slice q N k) N (jc (jf (H.take i))))∧Below w.heap.size w wr) (fun _ iv _=>nH-(intOf iv).toNat)
 case atStart=>exact⟨0,0,none,0,aO _,by go_num,rfl,aO _,rfl,aR _ _ _ _,aJ _ _⟩
 case round=>
  obtain⟨i,N,q,k,hi,rfl,rfl,hN,HNN,HO,hb⟩:=hrel
  have zr:=hb.size
  by_cases hlt:i<nH
  ·obtain⟨g,hg⟩: ∃g,d.H[i]?=some g:=⟨d.H[i]'(by rw[←ENH.out];exact hlt),au _⟩
   obtain⟨⟨pa,pb⟩,hp,r1,r2,g0,g1,_,_,gl⟩:=(HH.out.below hb).hand hg
   obtain⟨qa,ca,e1,_⟩:=r1.isSlice
   obtain⟨qb,cb,e2,_⟩:=r2.isSlice
   simp only at e1 e2 g0 g1
   subst e1 e2
   have hsn:jf (H.take (i+1))=jf (H.take i)++g.1++g.2:=Dz (by rw[EH.out];exact hg)
   have hlen:N+g.1.length+g.2.length≤65536:=by
    have h1:=qw H (i+1)
    rw[hsn] at h1
    simp only[aU] at h1
    have:=HNN.out
    omega
   have R1:=ah (j5.srcO r1).2
   have R2:=ah r2
   have HSN:=ah hsn
   have c1r:=(hb.cell (p:=⟨pd,1,none⟩) cl).trans c1
   have clr:pd<wr.heap.size:=om
   have i0:(0:Int)≤(i:Int):=om
   have i1:(i:Int)<(nH:Int):=om
   have KEEP:Hid (∀w2,Below w.heap.size wr w2→w2.cell? ⟨pd,1,none⟩=some (.slice (some ⟨gh,0,none⟩) nH nH)∧pd<w2.heap.size∧w2.cell? ⟨gh,i*2+1,none⟩=some (.slice qb g.2.length cb)∧gh<w2.heap.size∧rY w2 qb (jc g.2)):=fun w2 b2=>by
    obtain⟨⟨pa',pb'⟩,hp',_,r2',_,g1',_,_,gl'⟩:=(HH.out.below (hb.trans b2)).hand hg
    rw[hp] at hp'
    obtain⟨rfl,rfl⟩:=Prod.mk.inj (aH hp')
    exact⟨(b2.cell (p:=⟨pd,1,none⟩) cl).trans c1r,aF clr b2.size,g1',gl',(j5.srcO r2').2⟩
   obtain⟨na,hna⟩: ∃n,n=g.1.length:=⟨_,rfl⟩
   obtain⟨nb,hnb⟩: ∃n,n=g.2.length:=⟨_,rfl⟩
   have LA:Hid ((jc g.1).length=na*2):=by show _=_;rw[j6,hna];omega
   have LB:Hid ((jc g.2).length=nb*2):=by show _=_;rw[j6,hnb];omega
   have NEW:Hid ((jf (H.take (i+1))).length=N+na+nb):=by show _=_;rw[hsn,hna,hnb,HNN.out];simp only[aU]
   have OA:Hid (∀u∈jc g.1,u.oneCell'=true):=mZ _
   have OB:Hid (∀u∈jc g.2,u.oneCell'=true):=mZ _
   rw[←hna] at g0 hlen
   rw[←hnb] at g1 hlen KEEP
   have HBR:=ah hb
   clear r1 r2 hsn hp hg hna hnb hb
   go_wp2_with (first
    |(at_builtin;refine kS sH (base:=w.heap.size) (v:=.slice q N k) (n:=N) (m:=na) (xs:=jc (jf (H.take i))) (ms:=jc g.1) (p:=qa) rf (.tmp 15) (.tmp 23) rf rf rf HO.out LA.out R1.out OA.out om zr ?_;intro q3 k3 w2 hown3 hg3 ug;have b3:Below w.heap.size wr w2:=(aJ _ _).grown hg3 zr (fun r hr=>(HO.out.lt r hr).1);obtain⟨x1,xl,x2,x3,x4⟩:=KEEP.out w2 b3;have S4:=ah x4;have HO3:=ah hown3;have HB3:=ah b3;have z3:=bN zr b3.size;clear hown3 hg3 ug b3 x4)
    |(at_builtin;go_loud (refine kS sH (base:=w.heap.size) (v:=.slice q3 (N+na) k3) (n:=N+na) (m:=nb) (xs:=jc (jf (H.take i))++jc g.1) (ms:=jc g.2) (p:=qb) rf (.tmp 25) (.tmp 33) rf rf rf HO3.out LB.out S4.out OB.out om z3 ?_);intro q4 k4 w3 iK hg4 yu;have b4:=(HBR.out.trans HB3.out).grown hg4 z3 (fun r hr=>(HO3.out.lt r hr).1);have HO4:=ah iK;have HB4:=ah b4;clear iK hg4 yu b4))
   go_roundw
   case rel=>exact⟨i+1,N+na+nb,q4,k4,om,by go_num,rfl,om,NEW.out.symm,by rw[HSN.out,kE,kE];exact HO4.out,HB4.out⟩
   case measure=>simp[intOf];omega
  ·obtain rfl:i=nH:=by omega
   have HALL:jf (H.take i)=jf H:=by rw[eP (by rw[EH.out,←ENH.out];exact aI _)]
   have O0:Hid (wr.ownsRow w.heap.size 49 2 (.slice q N k) N (jc (jf H++(P.take 0).flatten))):=by
    show wr.ownsRow _ _ _ _ _ _
    rw[bB,List.flatten_nil,dF,←HALL];exact HO.out
   have N0:Hid (N=(jf H++(P.take 0).flatten).length):=by show _=_;rw[bB,List.flatten_nil,dF,←HALL];exact HNN.out
   have c1r:=(hb.cell (p:=⟨pd,1,none⟩) cl).trans c1
   have clr:pd<wr.heap.size:=om
   clear HALL HO HNN
   go_wp2_with fail
   go_loopw [3,5] (fun lv iv wr=>∃(i N:Nat) (q:Option Addr) (k:Nat),i≤nP∧iv= .int .i64 i∧lv= .slice q N k∧N≤65536∧Hid (N=(jf H++(P.take i).flatten).length)∧Hid (wr.ownsRow w.heap.size 49 2 (.slice q N k) N (jc (jf H++(P.take i).flatten)))∧Below w.heap.size w wr) (fun _ iv _=>nP-(intOf iv).toNat)
   case atStart=>exact⟨0,N,q,k,aO _,by go_num,rfl,hN,N0,O0,hb⟩
   case round=>
    clear c1r clr O0 N0 hb zr hN
    obtain⟨j,N,q,k,hj,rfl,rfl,hN,HNN,HO,hb⟩:=hrel
    have zr:=hb.size
    have c2r:=(hb.cell (p:=⟨pd,2,none⟩) cl).trans c2
    have clr:pd<_:=aF cl zr
    by_cases hlt:j<nP
    ·obtain⟨m,hm⟩: ∃m,d.P[j]?=some m:=⟨d.P[j]'(by rw[←ENP.out];exact hlt),au _⟩
     obtain⟨qp',kp',evp',_,_,yc⟩:=(HH.out.below hb).pile
     rw[←ENP.out] at evp'
     obtain⟨rfl,_,rfl⟩:=dM evp'
     obtain⟨u,g,of,hu,eg,_,gl,gc,ru⟩:=yc j m hm
     subst eg
     obtain⟨qa,ca,e1,_⟩:=ru.isSlice
     subst e1
     have hsn:(P.take (j+1)).flatten=(P.take j).flatten++m:=vO (by rw[EP.out];exact hm)
     have hlen:N+m.length≤65536:=by
      have h1:=rJ P (j+1)
      rw[hsn] at h1
      simp only[aU] at h1
      have:=HNN.out
      rw[aU] at this
      omega
     have R1:=ah (j5.srcO ru).2
     have HSN:=ah hsn
     have i0:(0:Int)≤(j:Int):=om
     have i1:(j:Int)<(nP:Int):=om
     obtain⟨na,hna⟩: ∃n,n=m.length:=⟨_,rfl⟩
     have LA:Hid ((jc m).length=na*2):=by show _=_;rw[j6,hna];omega
     have NEW:Hid ((jf H++(P.take (j+1)).flatten).length=N+na):=by show _=_;rw[hsn,hna,HNN.out];simp only[aU];omega
     have OA:Hid (∀u∈jc m,u.oneCell'=true):=mZ _
     rw[←hna] at gc hlen
     have HBR:=ah hb
     clear ru hsn hm hna hb hu yc evp'
     go_wp2_with (at_builtin;refine kS sH (base:=w.heap.size) (v:=.slice q N k) (n:=N) (m:=na) (xs:=jc (jf H++(P.take j).flatten)) (ms:=jc m) (p:=qa) rf (.tmp 44) (.tmp 51) rf rf rf HO.out LA.out R1.out OA.out om zr ?_;intro q3 k3 w2 hown3 hg3 ug;have b3:=HBR.out.grown hg3 zr (fun r hr=>(HO.out.lt r hr).1);have HO3:=ah hown3;have HB3:=ah b3;clear hown3 hg3 ug b3)
     go_roundw
     case rel=>exact⟨j+1,N+na,q3,k3,om,by go_num,rfl,om,NEW.out.symm,by rw[HSN.out,←cK,kE];exact HO3.out,HB3.out⟩
     case measure=>simp[intOf];omega
    ·obtain rfl:j=nP:=by omega
     have HALL:P.take j=P:=eP (by rw[EP.out,←ENP.out];exact aI _)
     have HO':=HO.out
     have HN':=HNN.out
     rw[HALL,←HLD.out] at HO' HN'
     have HO2:=ah HO';have HN2:=ah HN';have HB:=ah hb
     clear HO HNN HO' HN' HALL hb
     go_wp2
     go_ret
     exact⟨_,rfl,by rw[←HN2.out];exact HO2.out,HB.out⟩
theorem uh (o:Ob) (h:RD X w pd gh pc pm gN e mn lw hi O M v A V vp U d) (hI:jY e d):
 Calls Tryz.prog 150 #[.pointer (some ⟨pd,0,none⟩),.agg #[.int .i64 o.1,.int .i64 o.2]] w fun r w'=>r= .returned (.bool (vB e d o))∧Below w.heap.size w w':=by
 obtain⟨wa,hwa⟩: ∃wa,wa=w.alloc (.cells #[.int .i64 o.1,.int .i64 o.2] 49):=⟨_,rfl⟩
 have ba:Below w.heap.size w wa:=by rw[hwa];exact iB
 have LA:=ah (show iy wa w.heap.size [.int .i64 o.1,.int .i64 o.2] from by rw[hwa];exact iy.mk_ w [.int .i64 o.1,.int .i64 o.2] 49 rfl)
 have TK:=ah (rlie_ok (h.below ba) hI)
 have IT:Hid (∀W,Below w.heap.size w W→Calls Tryz.prog 233 #[.pointer (some ⟨pc,0,none⟩),.agg #[.int .i64 o.1,.int .i64 o.2]] W fun r w'=>r= .returned (.bool (decide (o∈jQ e d.c.C)))∧Below W.heap.size W w'):=fun W hW=>Dy o (h.c.below hW) hI.c
 have few:(held d).length≤65536:=bN (ji hI).2 (jy hI.c)
 have c0:=h.b.d.c 0 _ rfl;have cl:=h.b.d.lt
 obtain⟨l,hl⟩: ∃l,l=held d:=⟨_,rfl⟩
 obtain⟨tb,htb⟩: ∃tb,tb=decide (o∈jQ e d.c.C):=⟨_,rfl⟩
 obtain⟨ob,hob⟩: ∃ob,ob=vB e d o:=⟨_,rfl⟩
 have EO:Hid (ob=(tb&& !decide (o∈l))):=by show _=_;rw[hob,htb,hl];rfl
 rw[←hob]
 rw[←hl] at few TK
 rw[←htb] at IT
 have BA:=ah ba
 clear h hI hl htb ba hob
 go_enter Tryz.func150,Tryz.ntmps150
 go_wp2_with fail
 rw[←hwa]
 refine TK.out.mono ?_
 rintro r w1 ⟨v1,rfl,hown,hb1⟩
 obtain⟨q,k,rfl⟩: ∃q k,v1= .slice q l.length k:=by
  rcases hown.2 with⟨e1,e2⟩|⟨g,cap,cur,e1,_⟩
  ·exact⟨none,0,by rw[e1,e2]⟩
  ·exact⟨_,cap,e1⟩
 have HO:=ah hown
 have B1:=ah (BA.out.trans (hb1.mono BA.out.size))
 have L1:=ah (LA.out.go hb1)
 have z1:=B1.out.size
 clear hown hb1 TK LA BA hwa
 go_wp2_with fail
 go_loopw [6] (fun iv wr=>∃i:Nat,i≤l.length∧iv= .int .i64 i∧Below w1.heap.size w1 wr∧Hid (∀(j:Nat) (x:Ob),j<i→l[j]?=some x→x≠o)) (fun iv _=>l.length-(intOf iv).toNat)
 case atStart=>exact⟨0,aO _,by go_num,aJ _ _,fun j x hj=>om⟩
 case round=>
  obtain⟨i,hi,rfl,hb,HNO⟩:=hrel
  have zr:=hb.size
  have M6:=L1.out.go hb
  have x0:=M6.c 0 _ rfl;have x1:=M6.c 1 _ rfl;have xl:=M6.lt
  by_cases hlt:i<l.length
  ·obtain⟨x,hx⟩: ∃x,l[i]?=some x:=⟨l[i],au hlt⟩
   have own':=iE HO.out (Keep.of (S:=[]) hb) (fun s hs=>by cases hs)
   obtain⟨g,eg,k1,k2,gl,y0,y1⟩:=AY own' hx
   subst eg
   unfold maxLen at k2
   have hli:(i:Int)<(l.length:Int):=om
   have hl0:(0:Int)≤(i:Int):=om
   have eb:=eqO;have gb:=vg
   have HB:=ah hb
   have HXX:=ah hx
   clear own' hx k1 M6 hb c0
   cases hq:(x.1==o.1&&x.2==o.2) with
   |true=>
    have hxo:x=o:=by simp at hq;exact Prod.ext hq.1 hq.2
    have hbt:ob=false:=by rw[EO.out,decide_eq_true (show o∈l from by rw[←hxo];exact aB HXX.out)];simp
    subst hbt
    clear hxo
    go_wp2_with fail
    go_quiet (fail)
    go_wp2
    go_ret
    exact⟨rfl,B1.out.trans (fO (HB.out.trans iB) z1)⟩
   |false=>
    have hxo:Hid (x≠o):=fun q=>by subst q;simp at hq
    go_wp2_with fail
    go_quiet (fail)
    go_wp2
    go_round
    case rel=>exact⟨i+1,om,by go_num,HB.out.trans iB,fun j y hj hy=>by
     rcases Nat.lt_succ_iff_lt_or_eq.1 hj with q|q
     ·exact HNO.out j y q hy
     ·subst q;rw[HXX.out] at hy;obtain rfl:=aH hy;exact hxo.out⟩
    case measure=>simp[intOf];omega
  ·have hbt:ob=tb:=by
    rw[EO.out,decide_eq_false (fun q=> ?_)]
    ·simp
    ·obtain⟨j,hj⟩:=bR q
     have:=(aj.1 hj).1
     exact HNO.out j o om hj rfl
   subst hbt
   have HB:=ah (B1.out.trans (fO hb z1))
   have ITW:=ah (fun W (hW:Below wr.heap.size wr W)=>IT.out W (HB.out.trans (hW.mono HB.out.size)))
   have c0r:=(HB.out.cell (p:=⟨pd,0,none⟩) cl).trans c0
   have clr:pd<wr.heap.size:=om
   clear hb M6 IT c0
   go_wp2_with fail
   refine iC kR kR ?_
   repeat(go_big_quiet_step (((go_at_call 233;exact Calls.behind (ITW.out _ (Behind.h _))))))
   refine wpQuiet_nil ?_
   intro w5 hw'
   have hb5:=iZ hw'
   clear hw'
   have z5:=hb5.size;try simp at z5
   go_wp2
   go_ret
   exact⟨rfl,HB.out.trans (fO hb5 HB.out.size)⟩
end
end
section
open Go.RowKit Go.Maps
attribute [local go_sem ↓] aW aX
section
variable {X Y S M M' F G:List Nat} {w w' w0:World} {ev:Nat→Addr} {pd gh pc pm gN e:Nat} {mn lw hi:Int} {O:List (List Int)} {v v' vp vp':Value} {A A':SA} {V V':HV} {U U':List Value} {d d':De} {c c':Ca}
theorem RD.gave (h:RD X w pd gh pc pm gN e mn lw hi O M v A V vp U d) (hr:RC X w' pc pm gN e mn lw hi O M v A c') (k:Keep (nK pc A) w w'):RD X w' pd gh pc pm gN e mn lw hi O M v A V vp U ⟨c',d.H,d.P⟩:=
 h.cache hr (fun _ q=>q) (fun _ q=>.inl q) (fun _ q=>.inl q) k (fun s q=>av _ q)
theorem vR {q:Option Addr} {n k:Nat} {l:List Ob} (h:RD X w pd gh pc pm gN e mn lw hi O M v A V vp U d) (hI:l8 e d.c) (hl:j5 X w (.slice q n k) l) (h16:l.length≤65536):
 Calls Tryz.prog 152 #[.pointer (some ⟨pd,0,none⟩),.slice q n k] w fun r w'=>r= .returned (.int .i64 n)∧RD X w' pd gh pc pm gN e mn lw hi O M v A V vp U ⟨jd e d.c l,d.H,d.P⟩∧Keep (nK pc A) w w':=by
 obtain⟨p',cap',e1,nk,km,hrow⟩:=id hl
 obtain⟨rfl,en,rfl⟩:=dM e1
 have EN:=ah en
 rw[←en] at h16 nk
 have HL:=ah hl;have HIN:=ah hI
 have CM:Hid (∀s∈nK pc A,s∈X∨w.heap.size≤s):=fun s q=>.inl (h.c.b.mem s q)
 have START:Hid (RD X w pd gh pc pm gN e mn lw hi O M v A V vp U ⟨jd e d.c (l.take 0),d.H,d.P⟩):=h
 have ALL:Hid (l.take n=l):=by show _=_;rw[en];simp
 unfold maxLen at km
 clear h hI hl hrow e1 en
 go_enter Tryz.func152,Tryz.ntmps152
 go_wp2_with fail
 go_loopw [5] (fun iv wr=>∃i:Nat,i≤n∧iv= .int .i64 i∧Hid (RD X wr pd gh pc pm gN e mn lw hi O M v A V vp U ⟨jd e d.c (l.take i),d.H,d.P⟩)∧Hid (Keep (nK pc A) w wr)) (fun iv _=>n-(intOf iv).toNat)
 case atStart=>exact⟨0,aO _,by go_num,START,Keep.refl _ _⟩
 case round=>
  obtain⟨i,hin,rfl,HCD,HK⟩:=hrel
  by_cases hlt:i<n
  ·obtain⟨o,ho⟩: ∃o,l[i]?=some o:=⟨l[i]'(by rw[←EN.out];exact hlt),au _⟩
   obtain⟨g,off,eg,_,gl,y0,y1⟩:=(HL.out.keep HK.out CM.out).at ho
   subst eg
   obtain⟨i1,_,i3⟩:=jL (l:=l.take i) HIN.out
   have GV:Hid (∀W,Below wr.heap.size wr W→Calls Tryz.prog 26 #[.pointer (some ⟨pc,0,none⟩),.agg #[.int .i64 o.1,.int .i64 o.2]] W fun r w'=>(∃j:Int,r= .returned (.int .i64 j))∧RD X w' pd gh pc pm gN e mn lw hi O M v A V vp U ⟨jd e d.c (l.take (i+1)),d.H,d.P⟩∧Keep (nK pc A) w w'):=fun W hW=>
    (Gu o (HCD.out.c.below hW) i1).mono fun r w' ⟨hr,hc,hk⟩=>⟨⟨_,hr⟩,by rw[xq ho];exact(HCD.out.below hW).gave hc hk,(HK.out.step hW).then hk⟩
   have c0:=HCD.out.b.d.c 0 _ rfl;have cl:=HCD.out.b.d.lt
   have hli:(i:Int)<(n:Int):=om
   have hl0:(0:Int)≤(i:Int):=om
   clear ho i1 i3
   go_wp2_with fail
   refine jR 8 kR kR ?_
   simp only[aV,bB,aS,bq]
   repeat still_step
   refine wpStill_nil ?_
   go_wp2_with fail
   refine(GV.out _ iB).mono ?_
   rintro r w5 ⟨⟨j,rfl⟩,hcd5,hk5⟩
   have HCD5:=ah hcd5;have HK5:=ah hk5
   clear hcd5 hk5 GV y0 y1 c0 cl
   go_wp2
   go_roundw
   case rel=>exact⟨i+1,om,by go_num,HCD5,HK5⟩
   case measure=>simp[intOf];omega
  ·obtain rfl:i=n:=by omega
   have GH:=HCD.out
   rw[ALL.out] at GH
   have HC:=ah GH
   clear HCD GH
   go_wp2
   go_ret
   exact⟨rfl,HC.out,HK.out⟩
theorem GU (k:Nat) (h:RD X w pd gh pc pm gN e mn lw hi O M v A V vp U d) (hI:jY e d) (hX: ∀x∈X,x<w.heap.size) (hkl:k<d.H.length):
 Calls Tryz.prog 43 #[.pointer (some ⟨pd,0,none⟩),.int .i64 k] w (iY X pd gh pc pm gN e mn lw hi O M A w (jg e d k).1 (.int .i64 (jg e d k).2.2)):=by
 obtain⟨⟨l1,l2⟩,hk⟩: ∃g,d.H[k]?=some g:=⟨_,au hkl⟩
 have ed:jg e d k=(⟨jd e d.c (l1++l2),d.H.set k ([],[]),d.P⟩,0,(l1++l2).length):=by unfold jg;rw[jo hk];simp
 rw[ed]
 obtain⟨p,hp,o1,o2,g0,g1,f0,f1,gl⟩:=h.hand hk
 obtain⟨⟨pa,pb⟩,rfl⟩: ∃q,q=p:=⟨_,rfl⟩
 obtain⟨qa,ca,e1,_,_⟩:=o1.isSlice
 obtain⟨qb,cb,e2,_,_⟩:=o2.isSlice
 simp only at e1 e2 g0 g1 hp
 subst e1 e2
 have h4:=hI.h4 _ (aB hk)
 simp only at h4
 obtain⟨i1,iL,i3⟩:=jL (l:=l1) hI.c
 have cm: ∀s∈nK pc A,s∈X∨w.heap.size≤s:=fun s q=>.inl (h.c.b.mem s q)
 have npd:pd∉nK pc A:=fun q=>h.ne.1 (av _ q)
 have ngh:gh∉nK pc A:=fun q=>h.ne.2 (av _ q)
 have BK1:Hid (∀W,Below w.heap.size w W→Calls Tryz.prog 152 #[.pointer (some ⟨pd,0,none⟩),.slice qa l1.length ca] W fun r w'=>r= .returned (.int .i64 l1.length)∧RD X w' pd gh pc pm gN e mn lw hi O M v A V vp U ⟨jd e d.c l1,d.H,d.P⟩∧Keep (nK pc A) w w'):=fun W hW=>
  (vR (h.below hW) hI.c (o1.below hW) (by have:=h4.1;show l1.length≤_;omega)).mono fun r w' ⟨a,b,c⟩=>⟨a,b,(Keep.of hW).then c⟩
 have BK2:Hid (∀wb W,RD X wb pd gh pc pm gN e mn lw hi O M v A V vp U ⟨jd e d.c l1,d.H,d.P⟩→Keep (nK pc A) w wb→Below wb.heap.size wb W→Calls Tryz.prog 152 #[.pointer (some ⟨pd,0,none⟩),.slice qb l2.length cb] W fun r w'=>r= .returned (.int .i64 l2.length)∧RD X w' pd gh pc pm gN e mn lw hi O M v A V vp U ⟨jd e d.c (l1++l2),d.H,d.P⟩∧Keep (nK pc A) w w'):=fun wb W hc hkb hW=>
  (vR (hc.below hW) i1 ((o2.keep hkb cm).below hW) (by have:=h4.2;show l2.length≤_;omega)).mono fun r w' ⟨a,b,c⟩=>⟨a,by rw[rC];exact b,(hkb.step hW).then c⟩
 have hvl:k<V.length:=by rw[h.b.hl];exact hkl
 obtain⟨n,hn⟩: ∃n,n=d.H.length:=⟨_,rfl⟩
 have KC:Hid (∀w',Keep (nK pc A) w w'→w'.cell? ⟨gh,k*2,none⟩=some (.slice qa l1.length ca)∧w'.cell? ⟨gh,k*2+1,none⟩=some (.slice qb l2.length cb)∧w'.frozen? ⟨gh,k*2,none⟩=false∧w'.frozen? ⟨gh,k*2+1,none⟩=false∧gh<w'.heap.size∧w'.cell? ⟨pd,1,none⟩=some (.slice (some ⟨gh,0,none⟩) n n)∧pd<w'.heap.size):=fun w' kk=>
  ⟨(kk.cell gl ngh).trans g0,(kk.cell gl ngh).trans g1,(kk.frozen gl ngh).trans f0,(kk.frozen gl ngh).trans f1,aF gl kk.size,(kk.cell h.b.d.lt npd).trans (by rw[hn];exact h.b.d.c 1 _ rfl),aF h.b.d.lt kk.size⟩
 have FIN:Hid (∀wc W,RD X wc pd gh pc pm gN e mn lw hi O M v A V vp U ⟨jd e d.c (l1++l2),d.H,d.P⟩→Keep (nK pc A) w wc→W=(wc.setCell ⟨gh,k*2,none⟩ (.slice none 0 0)).setCell ⟨gh,k*2+1,none⟩ (.slice none 0 0)→
  iY X pd gh pc pm gN e mn lw hi O M A w ⟨jd e d.c (l1++l2),d.H.set k ([],[]),d.P⟩ (.int .i64 ((l1++l2).length:Nat)) (.returned (.int .i64 ((l1.length:Int)+(l2.length:Int)))) W):=fun wc W hc hkc hW=>by
  have a2:=zP hc.b.hs hvl (.slice none 0 0) (.slice none 0 0)
  rw[←hW] at a2
  have kk:Keep [gh] wc W:=by rw[hW];exact((Keep.refl _ _).setCell (p:=⟨gh,k*2,none⟩) (.inl sI) _).setCell (p:=⟨gh,k*2+1,none⟩) (.inl sI) _
  have hcd:=hc.oF k (p':=(.slice none 0 0,.slice none 0 0)) (h':=([],[])) hkl (j5.nil X wc) (j5.nil X wc) kk a2
  rw[show((l1.length:Int)+(l2.length:Int))=(((l1++l2).length:Nat):Int) from by rw[aU];omega]
  exact iY.here (S:=gh::nK pc A) hX hcd ((hkc.mono (S':=gh::nK pc A) (fun s q=>ak _ q)).trans kk (fun s q=>by simp at q;subst q;exact .inl (aD ..))) (fun s q=>by
   rcases aC.1 q with rfl|q
   ·exact ak _ (aD ..)
   ·exact ak _ (ak _ (av _ q)))
 obtain⟨c0,c1,_,_,_,c5,c6⟩:=KC.out w (Keep.refl _ _)
 rw[←hn] at hkl
 have hH4:=hI.hl
 rw[←hn] at hH4
 have n1:l1.length≤4:=h4.1
 have n2:l2.length≤4:=h4.2
 obtain⟨m1,hm1⟩: ∃m,m=l1.length:=⟨_,rfl⟩
 obtain⟨m2,hm2⟩: ∃m,m=l2.length:=⟨_,rfl⟩
 rw[←hm1] at BK1 KC FIN n1 c0
 rw[←hm2] at BK2 KC FIN n2 c1
 have hw1:IntKind.i64.wrap ((m1:Int)+(m2:Int))=(m1:Int)+(m2:Int):=aP _ om
 have i0:(0:Int)≤(k:Int):=om
 have i1:(k:Int)<(n:Int):=om
 clear h hI hk ed hp o1 o2 h4 i3 iL cm hm1 hm2 f0 f1 g0 g1
 go_enter Tryz.func43,Tryz.ntmps43
 go_wp2_with fail
 refine(BK1.out _ iB).mono ?_
 rintro r' w1 ⟨rfl,cdb,kb⟩
 obtain⟨x0,x1,_,_,xg,x5,x6⟩:=KC.out _ kb
 have HCB:=ah cdb;have HKB:=ah kb
 clear BK1 cdb kb c0 c1 c5 c6
 go_wp2_with fail
 refine(BK2.out _ _ HCB.out HKB.out iB).mono ?_
 rintro r' w2 ⟨rfl,cdc,kc⟩
 obtain⟨z0,z1,zf0,zf1,zg,z5,z6⟩:=KC.out _ kc
 have HCC:=ah cdc;have HKC:=ah kc
 clear BK2 cdc kc x0 x1 xg x5 x6 HCB HKB
 go_wp2
 go_ret
 exact FIN.out _ _ HCC.out HKC.out rfl
theorem GX (h:RD X w pd gh pc pm gN e mn lw hi O M v A V vp U d) (hI:jY e d) (hX: ∀x∈X,x<w.heap.size):
 Calls Tryz.prog 45 #[.pointer (some ⟨pd,0,none⟩)] w (iY X pd gh pc pm gN e mn lw hi O M A w (kL e d).1 (.int .i64 (kL e d).2)):=by
 have emp:kL e d=(⟨jd e d.c d.P.flatten,d.H,[]⟩,d.P.flatten.length):=rfl
 rw[emp]
 obtain⟨fn,hfn⟩: ∃fn,fn=d.P.flatten.length:=⟨_,rfl⟩
 have HFN:=ah hfn
 have pl:d.P.length≤65536:=by have:=(ji hI).1;have:=jy hI.c;omega
 have fl:d.P.flatten.length≤65536:=by have:=yg hI.p4;have:=(ji hI).1;have:=jy hI.c;omega
 have HIN:=ah hI
 have cm: ∀s∈nK pc A,s∈X∨w.heap.size≤s:=fun s q=>.inl (h.c.b.mem s q)
 have npd:pd∉nK pc A:=fun q=>h.ne.1 (av _ q)
 have CM:=ah cm
 have START:Hid (RD X w pd gh pc pm gN e mn lw hi O M v A V vp U ⟨jd e d.c (d.P.take 0).flatten,d.H,d.P⟩):=h
 have FIN:Hid (∀wc W,RD X wc pd gh pc pm gN e mn lw hi O M v A V vp U ⟨jd e d.c d.P.flatten,d.H,d.P⟩→Keep (nK pc A) w wc→W=wc.setCell ⟨pd,2,none⟩ (.slice none 0 0)→
  iY X pd gh pc pm gN e mn lw hi O M A w ⟨jd e d.c d.P.flatten,d.H,[]⟩ (.int .i64 (fn:Nat)) (.returned (.int .i64 (fn:Nat))) W):=fun wc W hc hkc hW=>by
  have a1:=hc.b.d.store 2 (.slice none 0 0) sI
  rw[←hW] at a1
  have kk:Keep [pd] wc W:=by rw[hW];exact(Keep.refl _ _).setCell (p:=⟨pd,2,none⟩) (.inl sI) _
  exact iY.here (S:=pd::nK pc A) hX (hc.GD (P':=[]) (U':=[]) kk a1 (jT.nil X wc) rfl (fun i u m hu=>by simp at hu)) ((hkc.mono (S':=pd::nK pc A) (fun s q=>ak _ q)).trans kk (fun s q=>by simp at q;subst q;exact .inl (aD ..))) (fun s q=>by
   rcases aC.1 q with rfl|q
   ·exact aD ..
   ·exact ak _ (ak _ (av _ q)))
 have ALL:Hid (d.P.take d.P.length=d.P):=bF
 obtain⟨n,hn⟩: ∃n,n=d.P.length:=⟨_,rfl⟩
 have EN:=ah hn
 have HFL:Hid (∀j,(d.P.take j).flatten.length≤65536):=fun j=>bN (rJ d.P j) fl
 rw[←hn] at pl ALL
 show Calls _ _ _ _ (iY X pd gh pc pm gN e mn lw hi O M A w ⟨jd e d.c d.P.flatten,d.H,[]⟩ (.int .i64 (d.P.flatten.length:Nat)))
 rw[←hfn]
 clear h hI cm hn emp hfn
 go_enter Tryz.func45,Tryz.ntmps45
 go_wp2_with fail
 go_loopw [3,4] (fun nv iv wr=>∃i:Nat,i≤n∧nv= .int .i64 ((d.P.take i).flatten.length:Nat)∧iv= .int .i64 i∧Hid (RD X wr pd gh pc pm gN e mn lw hi O M v A V vp U ⟨jd e d.c (d.P.take i).flatten,d.H,d.P⟩)∧Hid (Keep (nK pc A) w wr)) (fun _ iv _=>n-(intOf iv).toNat)
 case atStart=>exact⟨0,aO _,sI,by go_num,START,Keep.refl _ _⟩
 case round=>
  obtain⟨i,hin,rfl,rfl,HCD,HK⟩:=hrel
  obtain⟨qp,kp,evp,kp1,kp2,yc⟩:=HCD.out.pile
  have evp':vp= .slice qp n kp:=by rw[EN.out];exact evp
  have c2:=HCD.out.b.d.c 2 _ rfl;have cl:=HCD.out.b.d.lt;have cf:=HCD.out.b.d.f 2 sI
  rw[evp'] at c2
  unfold maxLen at kp2
  by_cases hlt:i<n
  ·obtain⟨m,hm⟩: ∃m,d.P[i]?=some m:=⟨d.P[i]'(by rw[←EN.out];exact hlt),au _⟩
   obtain⟨u,g,of,hu,eg,_,gl,gc,ru⟩:=yc i m hm
   subst eg
   obtain⟨qa,ca,e1,_⟩:=ru.isSlice
   subst e1
   have hsn:(d.P.take (i+1)).flatten=(d.P.take i).flatten++m:=vO hm
   have hp4:m.length≤4:=Nat.le_of_eq (HIN.out.p4 m (aB hm))
   obtain⟨i1,_,_⟩:=jL (l:=(d.P.take i).flatten) HIN.out.c
   have GV:Hid (∀W,Below wr.heap.size wr W→Calls Tryz.prog 152 #[.pointer (some ⟨pd,0,none⟩),.slice qa m.length ca] W fun r w'=>r= .returned (.int .i64 m.length)∧RD X w' pd gh pc pm gN e mn lw hi O M v A V vp U ⟨jd e d.c (d.P.take (i+1)).flatten,d.H,d.P⟩∧Keep (nK pc A) w w'):=fun W hW=>
    (vR (HCD.out.below hW) i1 (ru.below hW) om).mono fun r w' ⟨a,b,c⟩=>⟨a,by rw[hsn,rC];exact b,(HK.out.step hW).then c⟩
   have hn1:=HFL.out i;have hn2:=HFL.out (i+1)
   have HLN:Hid ((d.P.take (i+1)).flatten.length=(d.P.take i).flatten.length+m.length):=by show _=_;rw[hsn,aU]
   have i0:(0:Int)≤(i:Int):=om
   have i1':(i:Int)<(n:Int):=om
   obtain⟨a,ha⟩: ∃a,a=(d.P.take i).flatten.length:=⟨_,rfl⟩
   obtain⟨b,hb⟩: ∃b,b=m.length:=⟨_,rfl⟩
   rw[←ha] at hn1 HLN ⊢
   rw[←hb] at gc HLN GV hp4
   have hw1:IntKind.i64.wrap ((a:Int)+(b:Int))=((a+b:Nat):Int):=by rw[aP _ om];omega
   clear hsn hm hu yc ru i1 evp evp' ha hb cf
   go_wp2_with fail
   refine(GV.out wr (aJ _ _)).mono ?_
   rintro r w5 ⟨rfl,hcd5,hk5⟩
   have HCD5:=ah hcd5;have HK5:=ah hk5
   clear hcd5 hk5 GV c2 cl gc
   go_wp2
   go_roundw
   case rel=>exact⟨i+1,om,by rw[HLN.out];simp,by go_num,HCD5,HK5⟩
   case measure=>simp[intOf];omega
  ·obtain rfl:i=n:=by omega
   have GH:=HCD.out
   rw[ALL.out] at GH
   rw[ALL.out,←HFN.out]
   have HC:=ah GH
   clear HCD GH yc evp evp'
   go_wp2
   go_ret
   exact FIN.out _ _ HC.out HK.out rfl
theorem rheld_ok (h:RD X w pd gh pc pm gN e mn lw hi O M v A V vp U d) (hI:jY e d):
 Calls Tryz.prog 154 #[.pointer (some ⟨pd,0,none⟩)] w fun r w'=>r= .returned (.tuple #[.int .i64 (lG d.H),.int .i64 ((d.P.length*4:Nat):Int)])∧Below w.heap.size w w':=by
 have few:lG d.H≤65536:=by
  have h1:=(ji hI).2
  have h2:=jy hI.c
  have h3:(held d).length=(jf d.H).length+d.P.flatten.length:=by unfold held;rw[aU]
  rw[vK]
  omega
 have pl:d.P.length≤65536:=by have:=(ji hI).1;have:=jy hI.c;omega
 have hH4:=hI.hl
 obtain⟨qp,kp,evp,kp1,kp2,_⟩:=h.pile
 subst evp
 have c1:=h.b.d.c 1 _ rfl;have c2:=h.b.d.c 2 _ rfl;have cl:=h.b.d.lt
 have HH:=ah h;have HIN:=ah hI
 have HALL:Hid (lG (d.H.take d.H.length)=lG d.H):=by show _=_;rw[bF]
 have HLE:Hid (∀i,lG (d.H.take i)≤65536):=fun i=>by have:=qw d.H i;rw[←vK,←vK] at this;omega
 have HSN:Hid (∀(i:Nat) (g:Hd),d.H[i]?=some g→lG (d.H.take (i+1))=lG (d.H.take i)+(g.1.length+g.2.length)):=fun i g hg=>sK hg
 obtain⟨n,hn⟩: ∃n,n=d.H.length:=⟨_,rfl⟩
 obtain⟨np,hnp⟩: ∃n,n=d.P.length:=⟨_,rfl⟩
 have EN:=ah hn
 rw[←hn] at c1 hH4 HALL
 rw[←hnp] at c2 pl kp1 ⊢
 unfold maxLen at kp2
 clear h hI hn hnp
 go_enter Tryz.func154,Tryz.ntmps154
 go_wp2_with fail
 go_loopw [4,5] (fun nv iv wr=>∃i:Nat,i≤n∧nv= .int .i64 (lG (d.H.take i):Nat)∧iv= .int .i64 i∧Below w.heap.size w wr) (fun _ iv _=>n-(intOf iv).toNat)
 case atStart=>exact⟨0,aO _,by simp[lG],by go_num,aJ _ _⟩
 case round=>
  obtain⟨i,hin,rfl,rfl,hb⟩:=hrel
  have zr:=hb.size
  have c1r:=(hb.cell (p:=⟨pd,1,none⟩) cl).trans c1
  have c2r:=(hb.cell (p:=⟨pd,2,none⟩) cl).trans c2
  have clr:pd<wr.heap.size:=om
  by_cases hlt:i<n
  ·obtain⟨g,hg⟩: ∃g,d.H[i]?=some g:=⟨d.H[i]'(by rw[←EN.out];exact hlt),au _⟩
   obtain⟨⟨pa,pb⟩,hp,r1,r2,g0,g1,_,_,gl⟩:=(HH.out.below hb).hand hg
   obtain⟨qa,ca,e1,_⟩:=r1.isSlice
   obtain⟨qb,cb,e2,_⟩:=r2.isSlice
   simp only at e1 e2 g0 g1
   subst e1 e2
   have l4:=HIN.out.h4 g (aB hg)
   have s1:=HSN.out i g hg
   have b1:=HLE.out i;have b2:=HLE.out (i+1)
   have i0:(0:Int)≤(i:Int):=om
   have i1:(i:Int)<(n:Int):=om
   obtain⟨na,hna⟩: ∃n,n=g.1.length:=⟨_,rfl⟩
   obtain⟨nb,hnb⟩: ∃n,n=g.2.length:=⟨_,rfl⟩
   rw[←hna] at g0 s1 l4
   rw[←hnb] at g1 s1 l4
   obtain⟨a,ha⟩: ∃a,a=lG (d.H.take i):=⟨_,rfl⟩
   rw[←ha] at s1 b1 ⊢
   have hw1:IntKind.i64.wrap ((a:Int)+(na:Int))=(a:Int)+(na:Int):=aP _ om
   have hw2:IntKind.i64.wrap ((a:Int)+(na:Int)+(nb:Int))=((a+(na+nb):Nat):Int):=by rw[aP _ om];omega
   have HS1:=ah s1
   have HB:=ah hb
   clear r1 r2 hp hg hna hnb ha s1 c2r hb
   go_wp2_with fail
   go_quiet (fail)
   go_wp2
   go_round
   case rel=>exact⟨i+1,om,by rw[HS1.out];simp,by go_num,HB.out.trans (fO iB zr)⟩
   case measure=>simp[intOf];omega
  ·obtain rfl:i=n:=by omega
   rw[HALL.out]
   have HB:=ah hb
   obtain⟨a,ha⟩: ∃a,a=lG d.H:=⟨_,rfl⟩
   have HAA:=ah ha
   rw[←ha]
   have hw1:IntKind.i64.wrap ((np:Int)*4)=((np*4:Nat):Int):=by rw[aP _ om];omega
   clear ha HALL hb
   go_wp2_with fail
   go_quiet (fail)
   go_wp2
   go_ret2
   exact⟨by rw[←HAA.out];simp,HB.out.trans (fO iB zr)⟩
end
end
end Go.Proofs.YtdcbhlcbiokbeaaGreatDoor
