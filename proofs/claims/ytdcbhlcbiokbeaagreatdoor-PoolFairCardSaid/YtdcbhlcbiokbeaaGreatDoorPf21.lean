/- Lemmas and contracts for the claim's last text: DMo, PDep, EnvA, Env, PPl, Drp. -/
import Derived.Test.YtdcbhlcbiokbeaaGreatDoorPf01
import Derived.Test.YtdcbhlcbiokbeaaGreatDoorPf20
set_option linter.unusedSimpArgs false
set_option linter.unusedVariables false
set_option maxHeartbeats 16000000
set_option maxRecDepth 100000
namespace Go.Proofs.YtdcbhlcbiokbeaaGreatDoor
section
structure MoI (e:Nat) (l:List Ob) (d:De):Prop where
 nd:l.Nodup
 out: ∀x∈l,x∉held d
 iff: ∀x,x∈mY e d.c.C↔x∈l∨x∈held d
section
variable {mn:Int} {O:List (List Int)} {e:Nat} {d:De} {k v:Int} {u:Bool} {l:List Ob} {o:Ob}
theorem MoI.snoc (h:MoI e l d) (ho:o∉l) {d':De} (h1:o∉held d') (h2: ∀x∈held d',x∈held d) (h3: ∀x,x∈mY e d'.c.C↔x=o∨x∈l∨x∈held d'):MoI e (l++[o]) d':=by
 refine⟨?_,fun x hx=> ?_,fun x=> ?_⟩
 ·rw[aX]
  refine⟨h.nd,sI,fun a ha b hb q=> ?_⟩
  simp at hb
  subst hb q
  exact ho ha
 ·rcases aC.1 hx with q|q
  ·exact fun r=>h.out x q (h2 x r)
  ·simp at q;subst q;exact h1
 ·rw[h3]
  simp
  constructor
  ·rintro(q|q|q)
   ·exact .inl (.inr q)
   ·exact .inl (.inl q)
   ·exact .inr q
  ·rintro((q|q)|q)
   ·exact .inr (.inl q)
   ·exact .inl q
   ·exact .inr (.inr q)
theorem MoI.take (hO:nM O d.c.L.length) (hI:lV e d) (h:MoI e l d) (k v:Int) (u:Bool):
 ((takeD mn O e d k v u).2.1=0∧(takeD mn O e d k v u).2.2∉l∧MoI e (l++[(takeD mn O e d k v u).2.2]) (takeD mn O e d k v u).1)∨
 ((takeD mn O e d k v u).2.1≠0∧MoI e l (takeD mn O e d k v u).1):=by
 cases hh:jD d k with
 |none=>rw[pJ hh];exact .inr ⟨sI,h⟩
 |some g=>
  cases hl:(jc g d.P).1.1.getLast? with
  |some o=>
   have hc:=Dc (mn:=mn) (O:=O) (e:=e) (v:=v) (u:=u) hh hl
   have e2:(takeD mn O e d k v u).2=(0,o):=by rw[jE hh hl]
   have ec:(takeD mn O e d k v u).1.c=d.c:=by rw[jE hh hl]
   have hoh:o∈held d:=cB.1 (by have h2:=hc o;simp only[if_true] at h2;omega)
   rw[e2]
   have hol:o∉l:=fun q=>h.out o q hoh
   have hn:o∉held (takeD mn O e d k v u).1:=fun q=>by
    have h1:=cB.2 q;have h2:=hc o;have h3:=(hI.cnt o).1;simp only[if_true] at h2;omega
   have hs: ∀x∈held (takeD mn O e d k v u).1,x∈held d:=fun x q=>cB.1 (by have:=cB.2 q;have:=hc x;omega)
   refine .inl ⟨rfl,hol,h.snoc hol hn hs fun x=> ?_⟩
   rw[ec,h.iff]
   constructor
   ·rintro(q|q)
    ·exact .inr (.inl q)
    ·by_cases hx:x=o
     ·exact .inl hx
     ·refine .inr (.inr (cB.1 ?_))
      have:=cB.2 q;have:=hc x
      rw[if_neg (fun r=>hx r.symm)] at this
      omega
   ·rintro(q|q|q)
    ·subst q;exact .inr hoh
    ·exact .inl q
    ·exact .inr (hs x q)
  |none=>
   rw[jl hh hl]
   have eh:held ⟨(takeC mn O e d.c v u).1,d.H,d.P⟩=held d:=rfl
   rcases uQ (mn:=mn) (O:=O) hO hI.c v u with⟨t1,t2,t3⟩|⟨t1,t2⟩
   ·have hol:(takeC mn O e d.c v u).2.2∉l:=fun q=>t2 ((h.iff _).2 (.inl q))
    refine .inl ⟨t1,hol,h.snoc hol (fun q=>t2 ((h.iff _).2 (.inr q))) (fun x q=>q) fun x=> ?_⟩
    rw[eh,t3,h.iff]
   ·refine .inr ⟨t1,h.nd,h.out,fun x=> ?_⟩
    show x∈mY e (takeC mn O e d.c v u).1.C↔_
    rw[t2];exact h.iff x
theorem yx:(takeD mn O e d k v u).1.H.length=d.H.length:=by
 cases hh:jD d k with
 |none=>rw[pJ hh]
 |some g=>
  cases hl:(jc g d.P).1.1.getLast? with
  |some o=>rw[jE hh hl];simp
  |none=>rw[jl hh hl]
theorem MoI.wE (h:MoI e l d) (ho:o∈l):wE e d o=true:=zI.2 ⟨(h.iff o).2 (.inl ho),h.out o ho⟩
theorem yA {l:List Ob} (hn:l.Nodup) {i:Nat} {o:Ob} (ho:l[i]?=some o) (x:Ob):x∈l.take i++l.drop (i+1)↔x∈l∧x≠o:=by
 obtain⟨hi,he⟩:=ak.1 ho
 have e:l=l.take i++o::l.drop (i+1):=by
  conv=>lhs;rw[←bT i l]
  rw[eu hi,he]
 have hn':=hn
 rw[e] at hn'
 have hp:=aX.1 hn'
 have h1:o∉l.take i:=fun q=>hp.2.2 o q o sI rfl
 have h2:o∉l.drop (i+1):=(aR.1 hp.2.1).1
 constructor
 ·intro q
  refine⟨?_,fun r=> ?_⟩
  ·rw[e]
   rcases aC.1 q with q|q
   ·exact av _ q
   ·exact aj _ (au _ q)
  ·subst r
   rcases aC.1 q with q|q
   ·exact h1 q
   ·exact h2 q
 ·rintro⟨q,r⟩
  rw[e] at q
  rcases aC.1 q with q|q
  ·exact av _ q
  ·rcases aB.1 q with q|q
   ·exact absurd q r
   ·exact aj _ q
theorem MoI.give (h:MoI e l d) (hh:(jD d k).isSome=true) {i:Nat} (ho:l[i]?=some o):MoI e (l.take i++l.drop (i+1)) (iU e d k o).1:=by
 have hol:=aD ho
 have hout:=h.wE hol
 obtain⟨g,hg⟩:=fV.1 hh
 have hc:=zH hg hout
 have ec:(iU e d k o).1.c=d.c:=by unfold iU;rw[hg];simp only[hout,if_true]
 have hm: ∀x,x∈held (iU e d k o).1↔x∈held d∨x=o:=fun x=>by
  rw[←cB,←cB,hc x]
  by_cases q:o=x
  ·subst q;simp
  ·rw[if_neg q]
   constructor
   ·intro r;exact .inl om
   ·rintro(r|r)
    ·omega
    ·exact absurd r.symm q
 refine⟨?_,fun x hx=> ?_,fun x=> ?_⟩
 ·have:(l.take i++l.drop (i+1)).Sublist l:=by
   have:=(List.Sublist.refl (l.take i)).append (List.drop_sublist_drop_left l (Nat.le_succ i))
   rw[bT] at this
   exact this
  exact h.nd.sublist this
 ·obtain⟨a,b⟩:=(yA h.nd ho x).1 hx
  rw[hm]
  rintro(q|q)
  ·exact h.out x a q
  ·exact b q
 ·rw[ec,h.iff,hm,yA h.nd ho]
  constructor
  ·rintro(q|q)
   ·by_cases r:x=o
    ·exact .inr (.inr r)
    ·exact .inl ⟨q,r⟩
   ·exact .inr (.inl q)
  ·rintro(⟨q,_⟩|q|q)
   ·exact .inl q
   ·exact .inr q
   ·subst q;exact .inl hol
def NoH (n:Nat) (d:De):Prop:=d.P=[]∧∀i,i<n→i<d.H.length→d.H[i]?=some ([],[])
end
end
section
open Go.RowKit Go.Maps
attribute [local go_sem ↓] aO aP
def Du (w:World) (pages mn:Int) (e nw:Nat) (en:Ending) (w':World):Prop:=
 ∃(w3:World) (X:List Nat) (pd pc pz gh pdm ghm pcm pm gN:Nat) (x:Nd),en= .returned (.tuple #[.pointer (some ⟨pd,0,none⟩),.pointer (some ⟨pdm,0,none⟩),.bool true])∧Below w.heap.size w w3∧
  DZX w3 X [] pd pc pz gh pdm ghm pcm pm gN e mn mn mn [[0]] ⟨⟨[x],[]⟩,List.replicate nw ([],[]),[]⟩ ⟨⟨[x],[]⟩,List.replicate nw ([],[]),[]⟩ w'∧x.n=pages∧x.F=mq 0 pages∧x.T=[]∧Below w.heap.size w w'
theorem wP {B:Nat} {ev:Nat→Addr} (pages mn:Int) (e nw:Nat) (w:World) (hE:mg B ev w) (hc:mV [pages] [[0]] mn mn mn=0) (hfit:mn≤9223372036854775807) (q1:1≤e) (q2:e≤64) (n1:1≤nw) (n4:nw≤4):
 Calls Tryz.prog 48 #[.int .i64 pages,.int .i64 mn,.int .i64 e,.int .i64 nw] w (Du w pages mn e nw):=by
 have hB:=hE.size
 have F1:=(((gX.mk_ w [.int .i64 pages] 3 rfl).past (.cells #[.int .i64 0] 3)).past (.cells #[.slice (some ⟨w.heap.size+1,0,none⟩) 1 1] 22)).past (.cells #[.slice (some ⟨w.heap.size,0,none⟩) 1 1,.slice (some ⟨w.heap.size+2,0,none⟩) 1 1,.int .i64 mn,.int .i64 mn,.int .i64 mn] 27)
 have F2:=((gX.mk_ (w.alloc (.cells #[.int .i64 pages] 3)) [.int .i64 0] 3 (b:=w.heap.size+1) sI).past (.cells #[.slice (some ⟨w.heap.size+1,0,none⟩) 1 1] 22)).past (.cells #[.slice (some ⟨w.heap.size,0,none⟩) 1 1,.slice (some ⟨w.heap.size+2,0,none⟩) 1 1,.int .i64 mn,.int .i64 mn,.int .i64 mn] 27)
 have F3:=(gX.mk_ ((w.alloc (.cells #[.int .i64 pages] 3)).alloc (.cells #[.int .i64 0] 3)) [.slice (some ⟨w.heap.size+1,0,none⟩) 1 1] 22 (b:=w.heap.size+2) sI).past (.cells #[.slice (some ⟨w.heap.size,0,none⟩) 1 1,.slice (some ⟨w.heap.size+2,0,none⟩) 1 1,.int .i64 mn,.int .i64 mn,.int .i64 mn] 27)
 have F4:=gX.mk_ (((w.alloc (.cells #[.int .i64 pages] 3)).alloc (.cells #[.int .i64 0] 3)).alloc (.cells #[.slice (some ⟨w.heap.size+1,0,none⟩) 1 1] 22)) [.slice (some ⟨w.heap.size,0,none⟩) 1 1,.slice (some ⟨w.heap.size+2,0,none⟩) 1 1,.int .i64 mn,.int .i64 mn,.int .i64 mn] 27 (b:=w.heap.size+3) sI
 have b0:Below w.heap.size w ((((w.alloc (.cells #[.int .i64 pages] 3)).alloc (.cells #[.int .i64 0] 3)).alloc (.cells #[.slice (some ⟨w.heap.size+1,0,none⟩) 1 1] 22)).alloc (.cells #[.slice (some ⟨w.heap.size,0,none⟩) 1 1,.slice (some ⟨w.heap.size+2,0,none⟩) 1 1,.int .i64 mn,.int .i64 mn,.int .i64 mn] 27)):=iq
 obtain⟨W0,hW0⟩: ∃W0,((((w.alloc (.cells #[.int .i64 pages] 3)).alloc (.cells #[.int .i64 0] 3)).alloc (.cells #[.slice (some ⟨w.heap.size+1,0,none⟩) 1 1] 22)).alloc (.cells #[.slice (some ⟨w.heap.size,0,none⟩) 1 1,.slice (some ⟨w.heap.size+2,0,none⟩) 1 1,.int .i64 mn,.int .i64 mn,.int .i64 mn] 27))=W0:=⟨_,rfl⟩
 change gX ((((w.alloc _).alloc _).alloc _).alloc _) _ _ at F1
 replace F1:gX W0 w.heap.size [.int .i64 pages]:=hW0▸F1
 replace F2:gX W0 (w.heap.size+1) [.int .i64 0]:=hW0▸F2
 replace F3:gX W0 (w.heap.size+2) [.slice (some ⟨w.heap.size+1,0,none⟩) 1 1]:=hW0▸F3
 replace F4:gX W0 (w.heap.size+3) [.slice (some ⟨w.heap.size,0,none⟩) 1 1,.slice (some ⟨w.heap.size+2,0,none⟩) 1 1,.int .i64 mn,.int .i64 mn,.int .i64 mn]:=hW0▸F4
 rw[hW0] at b0
 have hcfg0:Cfg [] W0 (.slice (some ⟨w.heap.size,0,none⟩) 1 1) (.slice (some ⟨w.heap.size+2,0,none⟩) 1 1) [pages] [[0]]:=by
  refine⟨uL (us:=ints [pages]) (cap:=1) F1 (fun q=>by cases q) (by simp[ints]) (by unfold maxLen;omega),[.slice (some ⟨w.heap.size+1,0,none⟩) 1 1],rfl,uL (cap:=1) F3 (fun q=>by cases q) sI (by unfold maxLen;omega),fun j u xs hu hxs=> ?_⟩
  cases j with
  |zero=>
   simp at hu hxs
   subst hu hxs
   exact uL (us:=ints [0]) (cap:=1) F2 (fun q=>by cases q) (by simp[ints]) (by unfold maxLen;omega)
  |succ j=>simp at hu
 have HM0:=ah F4
 have CF:Hid (∀W,Below W0.heap.size W0 W→Cfg [] W (.slice (some ⟨w.heap.size,0,none⟩) 1 1) (.slice (some ⟨w.heap.size+2,0,none⟩) 1 1) [pages] [[0]]):=fun W hW=>hcfg0.below hW
 have EE:Hid (∀W,Below W0.heap.size W0 W→mg B ev W):=fun W hW=>hE.go (b0.trans (hW.mono b0.size))
 have CE0:=AU [] (.slice (some ⟨w.heap.size,0,none⟩) 1 1) (.slice (some ⟨w.heap.size+2,0,none⟩) 1 1) [pages] [[0]] mn mn mn W0 hcfg0
 rw[hc] at CE0
 have CE:=ah (show Calls Tryz.prog 17 #[.agg #[.slice (some ⟨w.heap.size,0,none⟩) 1 1,.slice (some ⟨w.heap.size+2,0,none⟩) 1 1,.int .i64 mn,.int .i64 mn,.int .i64 mn]] W0 fun e w'=>e= .returned (.int .i64 0)∧Below W0.heap.size W0 w' from CE0)
 have HCE:=ah hc
 have HB0:=ah b0
 have OF:Hid (∀W,Below W0.heap.size W0 W→Calls Tryz.prog 19 #[.agg #[.slice (some ⟨w.heap.size,0,none⟩) 1 1,.slice (some ⟨w.heap.size+2,0,none⟩) 1 1,.int .i64 mn,.int .i64 mn,.int .i64 mn]] W fun e w'=>∃vP' vN',e= .returned (.agg #[vP',vN',.int .i64 mn,.int .i64 mn,.int .i64 mn])∧Cfg [] w' vP' vN' [pages] [[0]]∧Below W.heap.size W w'):=fun W hW=>xI (X:=[]) _ _ [pages] [[0]] mn mn mn W (CF.out W hW) (fun x hx=>by cases hx) (show 1≤_ by omega) (show 1≤_ by omega) (fun j xs hj=>by cases j with|zero=>(simp at hj;subst hj;show 1≤_;omega)|succ j=>(simp at hj))
 have a0:=F4.c 0 _ rfl;have a1:=F4.c 1 _ rfl;have a2:=F4.c 2 _ rfl;have a3:=F4.c 3 _ rfl;have a4:=F4.c 4 _ rfl;have al:=F4.lt
 have d0:decide ((e:Int)<1)=false:=decide_eq_false om
 have d1:decide ((64:Int)<(e:Int))=false:=decide_eq_false om
 have d0':decide ((nw:Int)<1)=false:=decide_eq_false om
 have d1':decide ((4:Int)<(nw:Int))=false:=decide_eq_false om
 clear F1 F2 F3 F4 CE0 hc b0 hcfg0 hE
 go_enter Tryz.func48,Tryz.ntmps48
 go_wp2_with fail
 clear hW0
 refine CE.out.mono ?_
 rintro r w2 ⟨rfl,hb2⟩
 have HM2:=ah (HM0.out.go hb2)
 clear a0 a1 a2 a3 a4 al CE
 have a0:=HM2.out.c 0 _ rfl;have a1:=HM2.out.c 1 _ rfl;have a2:=HM2.out.c 2 _ rfl;have a3:=HM2.out.c 3 _ rfl;have a4:=HM2.out.c 4 _ rfl;have al:=HM2.out.lt
 go_wp2_with fail
 refine(OF.out w2 hb2).mono ?_
 rintro r w3 ⟨vP',vN',rfl,hcfg,hb3⟩
 have K3:Below W0.heap.size W0 w3:=hb2.trans (hb3.mono hb2.size)
 have HM3:=ah (HM2.out.go hb3)
 have NW:=ah (AJ [] vP' vN' [pages] [[0]] mn mn mn w3 (EE.out w3 K3).c hcfg HCE.out hfit)
 clear hcfg a0 a1 a2 a3 a4 al OF
 go_wp2_with fail
 refine NW.out.mono ?_
 rintro r w4 ⟨pz,O,L,rfl,hz,hpz,hLn,hLF,hO,hb4⟩
 obtain⟨x,rfl⟩: ∃x,L=[x]:=by
  match L,hLn with
  |[x],_=>exact⟨x,rfl⟩
 have hOO:=ordZ_one hz.ord
 subst hOO
 have z4:=hb4.size
 have HZ:=ah hz
 have HLN:=ah hLn;have HLF:=ah hLF;have HO:=ah hO
 have K4:Below W0.heap.size W0 w4:=K3.trans (hb4.mono K3.size)
 have HM4:=ah (HM3.out.go hb4)
 clear hz hLn hLF hO NW
 go_wp2_with fail
 refine(snew_ok pz e w4 q1 q2).mono ?_
 rintro r w5 ⟨rfl,hw5⟩
 have C0:=CS.new HZ.out sI z4 e
 rw[←hw5] at C0
 have b5:Below w4.heap.size w4 w5:=by rw[hw5];exact iq
 have z5:=b5.size
 have HC0:=ah C0
 have K5:Below W0.heap.size W0 w5:=K4.trans (b5.mono K4.size)
 have BEL5:=ah (hb4.trans (b5.mono z4))
 obtain⟨pc,hpc⟩: ∃pc,pc=w4.heap.size:=⟨_,rfl⟩
 rw[←hpc] at HC0 ⊢
 clear C0 hw5 hpc
 have HM5:=ah (HM4.out.go b5)
 have hI: ∀y∈[x],Inv y.n y.F y.T:=fun y hy=>(HZ.out.b.bud y hy).2
 have INV0:Hid (nS e ⟨[x],[]⟩):=⟨q1,q2,hI,by show 1≤4;omega,List.Pairwise.nil,fun s hs=>(by cases hs),fun s hs=>(by cases hs)⟩
 go_wp2_with fail
 refine(dnew_ok pc nw w5 n1 n4).mono ?_
 rintro r w6 ⟨rfl,hw6⟩
 have D0:=CD.start HC0.out om nw hw6
 have b6:Below w5.heap.size w5 w6:=by rw[hw6];exact iq
 have z6:=b6.size
 have K6:Below W0.heap.size W0 w6:=K5.trans (b6.mono K5.size)
 obtain⟨pd,hpd⟩: ∃pd,pd=w5.heap.size+1:=⟨_,rfl⟩
 obtain⟨gh,hgh⟩: ∃gh,gh=w5.heap.size:=⟨_,rfl⟩
 rw[←hpd,←hgh] at D0
 rw[←hpd]
 have P6:=ah (show DpS w3.heap.size w3 pd pc pz gh mn mn mn [[0]] e _ [] ⟨⟨[x],[]⟩,List.replicate nw ([],[]),[]⟩ w6 from⟨D0,lV.start INV0.out nw n1 n4,BEL5.out.trans (b6.mono (by have:=BEL5.out.size;omega))⟩)
 have HM6:=ah (HM5.out.go b6)
 clear D0 hw6 b6 hpd hgh
 have a0:=HM6.out.c 0 _ rfl;have a1:=HM6.out.c 1 _ rfl;have a2:=HM6.out.c 2 _ rfl;have a3:=HM6.out.c 3 _ rfl;have a4:=HM6.out.c 4 _ rfl;have al:=HM6.out.lt
 have NZ:=ah (yw _ (.slice (some ⟨w.heap.size,0,none⟩) 1 1) (.slice (some ⟨w.heap.size+2,0,none⟩) 1 1) [pages] [[0]] mn mn mn [[0]] [x] w6 (fun y hy=>(P6.out.lim y hy).2) (CF.out w6 K6) HCE.out hfit HLN.out HLF.out hI HZ.out.ord HO.out)
 clear hI
 go_wp2_with fail
 refine NZ.out.mono ?_
 rintro r w12 ⟨X,M,pm,gN,rfl,hrz,hX1,hX2,⟨hX3,hX4,hX5⟩,hb12⟩
 have K12:Below W0.heap.size W0 w12:=K6.trans (hb12.mono K6.size)
 have z12:=hb12.size
 have ST:=fun(w15:World) hw=>DZX.start (nw:=nw) (w15:=w15) P6.out hb12 hrz hX1 hX2 hX3 hX4 hX5 hw
 have HST:=ah ST
 have HK3:=ah K3
 clear ST NZ hrz hX1 hX2 hX3 hX4 hX5 a0 a1 a2 a3 a4 al P6
 go_wp2_with fail
 refine(rdnew_ok w12.heap.size nw _ n1 n4).mono ?_
 rintro r w15 ⟨rfl,hw15⟩
 simp at hw15
 have S0:=ah (HST.out w15 (by rw[hw15]))
 have b15:Below w12.heap.size w12 w15:=by rw[hw15];exact iq
 have e15:(w12.alloc (.cells #[.pointer (some ⟨pm,0,none⟩),.int .i64 e,.slice none 0 0] 47)).heap.size+1=w12.heap.size+2:=sI
 rw[e15]
 have K15:=ah (HB0.out.trans ((K12.trans (b15.mono K12.size)).mono HB0.out.size))
 clear HST hw15 e15 b15
 go_wp2
 refine bodyPost_ret (v:=.tuple #[.pointer (some ⟨pd,0,none⟩),.pointer (some ⟨w12.heap.size+2,0,none⟩),.bool true]) (by simp[results,Tryz.results48,go_sem]) rfl ?_
 exact⟨w3,_,pd,pc,pz,gh,_,_,_,pm,gN,x,rfl,HB0.out.trans (HK3.out.mono HB0.out.size),S0.out,by have:=HLN.out;simpa using this,by have:=(HLF.out x sI).1;have h2:=HLN.out;simp at h2;rw[h2] at this;exact this,(HLF.out x sI).2,K15.out⟩
end
section
open Go.RowKit Go.Maps
attribute [local go_sem ↓] aO aP
def EPost {σ:Type} (S:List Nat→List Nat→σ→World→Prop) (X F:List Nat) (d:σ) (w:World) (r:Value) (en:Ending) (w':World):Prop:=
 en= .returned r∧∃X',S X' F d w'∧Keep (off X F) w w'∧(∀x∈X',x∈X∨w.heap.size≤x)∧∀x∈X,x∈X'
structure FEnv (σ:Type) (w0:World) where
 S:List Nat→List Nat→σ→World→Prop
 bel: ∀{X F d w},S X F d w→Below w0.heap.size w0 w
 lim: ∀{X F d w},S X F d w→∀x∈X,w0.heap.size≤x∧x<w.heap.size
 nY: ∀{X F d w},S X F d w→∀f∈F,f∈X
 go: ∀{X F d w w'},S X F d w→Below w.heap.size w w'→S X F d w'
 other: ∀{X F G d w w'},S X F d w→Keep G w w'→(∀g∈G,g∈F)→S X F d w'
 Bo: ∀{X F G Y d w w'},S X F d w→Keep G w w'→(∀g∈G,g∈F)→(∀y∈Y,w.heap.size≤y∧y<w'.heap.size)→S (Y++X) (Y++F) d w'
 xw: ∀{X F G d w},S X F d w→(∀g∈G,g∈F)→S X G d w
structure jY {σ:Type} {w0:World} (E:FEnv σ w0) (X0 F:List Nat) (w:World) (L X:List Nat) (d:σ) (W:World):Prop where
 t:E.S X (L++F) d W
 k:Keep (off X0 F) w W
 x1: ∀x∈X,x∈X0∨w.heap.size≤x
 x2: ∀x∈X0,x∈X
 l: ∀b∈L,w.heap.size≤b∧b<W.heap.size
section
variable {σ:Type} {w0 w W W':World} {E:FEnv σ w0} {X0 F L X:List Nat} {d d':σ} {b:Nat} {r:Value} {en:Ending}
theorem jY.start (h:E.S X F d w):jY E X F w [] X d w:=⟨h,Keep.refl _ _,fun _ q=>.inl q,fun _ q=>q,fun b q=>by cases q⟩
theorem jY.go (h:jY E X0 F w L X d W) (k:Below W.heap.size W W'):jY E X0 F w L X d W':=⟨E.go h.t k,h.k.step k,h.x1,h.x2,fun b q=>⟨(h.l b q).1,aF (h.l b q).2 k.size⟩⟩
theorem jY.box (h:jY E X0 F w L X d W) (o:Obj):jY E X0 F w (W.heap.size::L) (W.heap.size::X) d (W.alloc o):=by
 have kb:Below W.heap.size W (W.alloc o):=(aU _ _).alloc (aI _) o
 have zk:=h.k.size
 refine⟨E.Bo (Y:=[W.heap.size]) (G:=[]) h.t (Keep.of kb) (fun g q=>by cases q) (fun y hy=>by simp at hy;subst hy;simp),h.k.step kb,fun x q=> ?_,fun x q=>au _ (h.x2 x q),fun b q=> ?_⟩
 ·rcases aB.1 q with r|r
  ·subst r;exact .inr zk
  ·exact h.x1 x r
 ·rcases aB.1 q with r|r
  ·subst r;exact⟨zk,sI⟩
  ·exact⟨(h.l b r).1,aF (h.l b r).2 kb.size⟩
theorem jY.wr (h:jY E X0 F w L X d W) (hb:b∈L) (k:Keep [b] W W'):jY E X0 F w L X d W':=by
 refine⟨E.other h.t k fun g q=> ?_,h.k.trans k fun s q=> ?_,h.x1,h.x2,fun c q=>⟨(h.l c q).1,aF (h.l c q).2 k.size⟩⟩
 ·simp at q;subst q;exact av _ hb
 ·simp at q;subst q;exact .inr (h.l _ hb).1
theorem jY.act (h:jY E X0 F w L X d W) (hp:EPost E.S X (L++F) d' W r en W'):en= .returned r∧∃X',jY E X0 F w L X' d' W'∧Keep (off X (L++F)) W W':=by
 obtain⟨h1,X',h2,h3,h4,h5⟩:=hp
 have z:=h.k.size
 refine⟨h1,X',⟨h2,h.k.trans h3 fun s q=> ?_,fun x q=> ?_,fun x q=>h5 x (h.x2 x q),fun b q=>⟨(h.l b q).1,aF (h.l b q).2 h3.size⟩⟩,h3⟩
 ·obtain⟨q1,q2⟩:=iO.1 q
  exact(h.x1 s q1).imp (fun t=>iO.2 ⟨t,fun u=>q2 (aj _ u)⟩) id
 ·rcases h4 x q with t|t
  ·exact h.x1 x t
  ·exact .inr om
theorem jY.fin (h:jY E X0 F w L X d W):EPost E.S X0 F d w r (.returned r) W:=
 ⟨rfl,X,E.xw h.t fun g q=>aj _ q,h.k,h.x1,h.x2⟩
theorem jY.loc (hb:b∈L) {us:List Value} (hl:gX W b us) (k:Keep (off X (L++F)) W W'):gX W' b us:=hl.keep k fun q=>(iO.1 q).2 (av _ hb)
end
structure uo (pd pc pz e:Nat) (mn:Int) (O:List (List Int)) (ev:Nat→Addr) (w0:World) extends FEnv De w0 where
 inv: ∀{X F d w},S X F d w→lV e d
 ord: ∀{X F d w},S X F d w→nM O d.c.L.length
 err:mg w0.heap.size ev w0
 take: ∀{X F d w} (k n:Int) (u:Bool),S X F d w→Calls Tryz.prog 37 #[.pointer (some ⟨pd,0,none⟩),.int .i64 k,.int .i64 n,.bool u] w (EPost S X F (takeD mn O e d k n u).1 w (.tuple #[obV (takeD mn O e d k n u).2.2,iJ ev (takeD mn O e d k n u).2.1]))
 give: ∀{X F d w} (k:Int) (o:Ob),S X F d w→ -9223372036854775808≤o.2→o.2≤9223372036854775807→Calls Tryz.prog 39 #[.pointer (some ⟨pd,0,none⟩),.int .i64 k,.agg #[.int .i64 o.1,.int .i64 o.2]] w (EPost S X F (iU e d k o).1 w (iJ ev (iU e d k o).2))
 work: ∀{X F d w},S X F d w→Calls Tryz.prog 159 #[.pointer (some ⟨pd,0,none⟩)] w fun r w'=>r= .returned (.int .i64 d.H.length)∧w'=w
 cache: ∀{X F d w},S X F d w→Calls Tryz.prog 62 #[.pointer (some ⟨pd,0,none⟩)] w fun r w'=>r= .returned (.pointer (some ⟨pc,0,none⟩))∧w'=w
 zone: ∀{X F d w},S X F d w→Calls Tryz.prog 235 #[.pointer (some ⟨pc,0,none⟩)] w fun r w'=>r= .returned (.pointer (some ⟨pz,0,none⟩))∧w'=w
 free: ∀{X F d w} (v:Int),S X F d w→Calls Tryz.prog 64 #[.pointer (some ⟨pz,0,none⟩),.int .i64 v] w fun r w'=>(∃n,r= .returned (.tuple #[.int .i64 n,iJ ev (if 0≤v∧v<d.c.L.length then 0 else 2)]))∧Below w.heap.size w w'
section
variable {X F:List Nat} {B:Nat} {w w0:World} {ev:Nat→Addr} {pd pc pz gh pdm ghm pcm pm gN e:Nat} {mn lw hi:Int} {O:List (List Int)} {d m:De} {v vp:Value} {A:SA} {V:HV} {U:List Value}
theorem yB (h:CD B w X pd pc pz gh mn lw hi O e v A V vp U d):
 Calls Tryz.prog 159 #[.pointer (some ⟨pd,0,none⟩)] w fun r w'=>r= .returned (.int .i64 d.H.length)∧w'=w:=by
 have c1:=h.de.d.c 1 _ rfl;have cl:=h.de.d.lt
 clear h
 go_enter Tryz.func159,Tryz.ntmps159
 go_wp2
 go_ret
 exact⟨rfl,rfl⟩
theorem czone_ok (h:CD B w X pd pc pz gh mn lw hi O e v A V vp U d):
 Calls Tryz.prog 235 #[.pointer (some ⟨pc,0,none⟩)] w fun r w'=>r= .returned (.pointer (some ⟨pz,0,none⟩))∧w'=w:=by
 have c0:=h.cs.ch.c.c 0 _ rfl;have cl:=h.cs.ch.c.lt
 clear h
 go_enter Tryz.func235,Tryz.ntmps235
 go_wp2
 go_ret
 exact⟨rfl,rfl⟩
theorem Dv {L:List Nd} (v:Int) (hE:qV B ev w) (h:je B w pz mn lw hi O L) (hL:0<L.length):
 Calls Tryz.prog 64 #[.pointer (some ⟨pz,0,none⟩),.int .i64 v] w fun r w'=>(∃n,r= .returned (.tuple #[.int .i64 n,iJ ev (if 0≤v∧v<L.length then 0 else 2)]))∧Below w.heap.size w w':=by
 by_cases hv:0≤v∧v<L.length
 ·rw[if_pos hv]
  obtain⟨x,hx⟩: ∃x,L[v.toNat]?=some x:=⟨L[v.toNat]' om,aA _⟩
  have:=zq pz mn lw hi O L v.toNat x w h hx
  rw[show((v.toNat:Nat):Int)=v from om] at this
  exact this.mono fun r w' ⟨q,b⟩=>⟨⟨_,q⟩,b⟩
 ·rw[if_neg hv]
  exact(vZ pz mn lw hi O L v w hE h hL om).mono fun r w' ⟨q,b⟩=>⟨⟨_,q⟩,b⟩
theorem AX (h:CD B w X pd pc pz gh mn lw hi O e v A V vp U d):
 Calls Tryz.prog 62 #[.pointer (some ⟨pd,0,none⟩)] w fun r w'=>r= .returned (.pointer (some ⟨pc,0,none⟩))∧w'=w:=by
 have c0:=h.de.d.c 0 _ rfl;have cl:=h.de.d.lt
 clear h
 go_enter Tryz.func62,Tryz.ntmps62
 go_wp2
 go_ret
 exact⟨rfl,rfl⟩
end
end
section
open Go.RowKit Go.Maps
attribute [local go_sem ↓] aO aP
section
variable {X F:List Nat} {B:Nat} {w w0:World} {ev:Nat→Addr} {pd pc pz gh pdm ghm pcm pm gN e:Nat} {mn lw hi:Int} {O:List (List Int)} {d m:De} {v vp:Value} {A:SA} {V:HV} {U:List Value}
def envZ (gh pdm ghm pcm pm gN:Nat) (lw hi:Int) (m:De) (hE:mg w0.heap.size ev w0):uo pd pc pz e mn O ev w0 where
 S X F d w:=DZX w0 X F pd pc pz gh pdm ghm pcm pm gN e mn lw hi O d m w
 bel h:=h.bel
 lim h:=h.lim
 nY h:=h.nY
 inv h:=h.inv
 ord h:=h.ord
 go h k:=h.go k
 other h k hs:=h.other k hs
 Bo h k hs hy:=h.Bo k hs hy
 xw h hg:=h.xw hg
 err:=hE
 take k n u h:=dz_take k n u hE.s h
 give k o h o1 o2:=dz_give k o hE.s h o1 o2
 work h:=by
  obtain⟨M,v,A,V,vp,U,q⟩:=h
  obtain⟨v',A',V',vp',U',c,_⟩:=q.s.cd
  exact yB c
 cache h:=by
  obtain⟨M,v,A,V,vp,U,q⟩:=h
  obtain⟨v',A',V',vp',U',c,_⟩:=q.s.cd
  exact AX c
 zone h:=by
  obtain⟨M,v,A,V,vp,U,q⟩:=h
  obtain⟨v',A',V',vp',U',c,_⟩:=q.s.cd
  exact czone_ok c
 free v h:=by
  obtain⟨M,v1,A,V,vp,U,q⟩:=h
  obtain⟨v',A',V',vp',U',c,_⟩:=q.s.cd
  exact Dv v (hE.go q.s.bel).c c.cs.z.toB c.cs.l0
end
end
section
structure Po where
 d:De
 most:Nat
 R:List Ob
 T:List Ob
 W:List Int
 G:List (Int×Ob)
 last:Int
 cl:Bool
def lM (p:Po):Po×Nat:=if 8≤p.W.length then(p,10) else(⟨p.d,p.most,p.R,p.T,p.W++[p.last+1],p.G,p.last+1,p.cl⟩,8)
def kV (p:Po) (k:Int):Bool:=decide (0≤k∧k<p.d.H.length)
def wQ (p:Po) (v:Int):Bool:=decide (0≤v∧v<p.d.c.L.length)
def Po.atD (p:Po) (d:De):Po:=⟨d,p.most,p.R,p.T,p.W,p.G,p.last,p.cl⟩
def mG (mn:Int) (O:List (List Int)) (e:Nat) (p:Po) (k v:Int):Po×Nat×Ob:=
 if p.cl=true then(p,4,(0,0)) else
 if kV p k=false∨wQ p v=false then(p,2,(0,0)) else
 if p.W≠[] then((lM p).1,(lM p).2,(0,0)) else
 if (takeD mn O e p.d k v false).2.1=0 then
  (⟨(takeD mn O e p.d k v false).1,p.most,p.R,p.T++[(takeD mn O e p.d k v false).2.2],p.W,p.G,p.last,p.cl⟩,0,(takeD mn O e p.d k v false).2.2) else
 match p.R.getLast? with
 |none=>((lM (p.atD (takeD mn O e p.d k v false).1)).1,(lM (p.atD (takeD mn O e p.d k v false).1)).2,(0,0))
 |some o=>(⟨(takeD mn O e p.d k v false).1,p.most,p.R.dropLast,p.T++[o],p.W,p.G,p.last,p.cl⟩,0,o)
def Dw (e:Nat) (p:Po) (k:Int) (o:Ob):Po×Nat:=
 match p.W with
 |t::W=>(⟨p.d,p.most,p.R,p.T.erase o,W,p.G++[(t,o)],p.last,p.cl⟩,0)
 |[]=>if p.R.length<p.most then(⟨p.d,p.most,p.R++[o],p.T.erase o,[],p.G,p.last,p.cl⟩,0)
  else(⟨(iU e p.d k o).1,p.most,p.R,p.T.erase o,[],p.G,p.last,p.cl⟩,(iU e p.d k o).2)
def oI (e:Nat) (p:Po) (k:Int) (o:Ob):Po×Nat:=
 if p.cl=true then(p,4) else if kV p k=false then(p,2) else if o∈p.T then Dw e p k o else(p,9)
def oJ (G:List (Int×Ob)) (t:Int):Option Ob:=(G.find? fun g=>g.1==t).map (·.2)
def delG (G:List (Int×Ob)) (t:Int):List (Int×Ob):=G.filter fun g=>g.1 !=t
def Po.fetch (p:Po) (t:Int) (o:Ob):Po:=⟨p.d,p.most,p.R,p.T++[o],p.W,delG p.G t,p.last,p.cl⟩
def lN (p:Po) (t:Int):Po×Nat×Bool×Ob:=
 if p.cl=true then(p,4,false,(0,0)) else if t∈p.W then(p,0,false,(0,0)) else
 match oJ p.G t with
 |none=>(p,4,false,(0,0))
 |some o=>(p.fetch t o,0,true,o)
def cancelP (e:Nat) (p:Po) (t:Int):Po×Nat:=
 if p.cl=true then(p,4) else if t∈p.W then(⟨p.d,p.most,p.R,p.T,p.W.erase t,p.G,p.last,p.cl⟩,0) else
 match oJ p.G t with
 |none=>(p,4)
 |some o=>oI e (p.fetch t o) 0 o
def lF (e:Nat) (d:De) (l:List Ob):De:=l.foldl (fun d o=>(iU e d 0 o).1) d
def closeP (e:Nat) (p:Po):Po×Nat:=
 if p.cl=true then(p,4) else if 0<p.T.length+p.W.length+p.G.length then(p,6) else
 (⟨lF e p.d p.R,p.most,[],p.T,p.W,p.G,p.last,true⟩,0)
def Po.obs (p:Po):List Ob:=p.R++(p.T++p.G.map (·.2))
structure kJ (e:Nat) (p:Po):Prop where
 inv:lV e p.d
 mo: ∃l,MoI e l p.d∧∀x∈p.obs,x∈l
 nd:p.obs.Nodup
 m1:1≤p.most∧p.most≤16
 r:p.R.length≤p.most
 w:p.W.length≤8
 asc:p.W.Pairwise (· < ·)
 wl: ∀t∈p.W,1≤t∧t≤p.last
 gn:(p.G.map (·.1)).Nodup
 gl: ∀g∈p.G,1≤g.1∧g.1≤p.last
 wg: ∀g∈p.G,g.1∉p.W
 l0:0≤p.last
section
variable {mn:Int} {O:List (List Int)} {e:Nat} {p:Po} {k v t:Int} {o:Ob} {d:De}
theorem yC {c:Ca} {u:Bool} (h0:0≤v) (h1:v<c.L.length):(takeC mn O e c v u).2.1=0∨(takeC mn O e c v u).2.1=5∨(takeC mn O e c v u).2.1=7:=by
 unfold takeC
 rw[if_neg om]
 cases hb:jJ v c.C c.C.length with
 |some i=>
  obtain⟨_,s,hs,_⟩:=iY hb
  simp[hs]
 |none=>
  simp only
  split
  ·simp
  ·rename_i hz
   show(iQ mn O c.L v 0 u).2.1=0∨(iQ mn O c.L v 0 u).2.1=5∨(iQ mn O c.L v 0 u).2.1=7
   unfold iQ
   rw[if_neg om]
   split
   ·right;unfold xK;split<;>simp
   split
   ·simp
   split<;>simp
theorem sO (h0:0≤k) (h1:k<d.H.length):(jD d k).isSome=true:=by
 unfold jD
 rw[if_neg om,aA om]
 rfl
theorem yD {u:Bool} (h0:0≤k) (h1:k<d.H.length) (v0:0≤v) (v1:v<d.c.L.length):(takeD mn O e d k v u).2.1=0∨(takeD mn O e d k v u).2.1=5∨(takeD mn O e d k v u).2.1=7:=by
 obtain⟨g,hg⟩:=fV.1 (sO h0 h1)
 cases hl:(jc g d.P).1.1.getLast? with
 |some o=>rw[jE hg hl];simp
 |none=>rw[jl hg hl];exact yC v0 v1
theorem kJ.waitI (h:kJ e p):kJ e (lM p).1:=by
 unfold lM
 split
 ·exact h
 ·have hl:=h.l0
  refine⟨h.inv,h.mo,h.nd,h.m1,h.r,by simp;omega,?_,fun t ht=> ?_,h.gn,fun g hg=> ?_,fun g hg q=> ?_,by simp only;omega⟩
  ·rw[dw]
   refine⟨h.asc,sI,fun a ha b hb=> ?_⟩
   simp at hb;have:=(h.wl a ha).2;omega
  ·rcases aC.1 ht with q|q
   ·have:=h.wl t q;simp only;omega
   ·simp at q;simp only;omega
  ·have:=h.gl g hg;simp only;omega
  ·rcases aC.1 q with q|q
   ·exact h.wg g hg q
   ·simp at q;have:=h.gl g hg;omega
theorem kJ.atD (h:kJ e p) {l:List Ob} (hI:lV e d) (hm:MoI e l d) (hs: ∀x∈p.obs,x∈l):kJ e (p.atD d):=
 ⟨hI,⟨l,hm,hs⟩,h.nd,h.m1,h.r,h.w,h.asc,h.wl,h.gn,h.gl,h.wg,h.l0⟩
theorem kJ.take (hO:nM O p.d.c.L.length) (h:kJ e p) (k v:Int):kJ e (mG mn O e p k v).1:=by
 unfold mG
 split
 ·exact h
 split
 ·exact h
 split
 ·exact h.waitI
 obtain⟨l,hm,hs⟩:=h.mo
 have hI:=nu (mn:=mn) (O:=O) (k:=k) (v:=v) (u:=false) hO h.inv
 have ht:=MoI.take (mn:=mn) (O:=O) hO h.inv hm k v false
 split
 ·rename_i h0
  rcases ht with⟨_,h1,h2⟩|⟨h1,_⟩
  ·have hn:(takeD mn O e p.d k v false).2.2∉p.obs:=fun q=>h1 (hs _ q)
   refine⟨hI,⟨_,h2,fun x hx=> ?_⟩,?_,h.m1,h.r,h.w,h.asc,h.wl,h.gn,h.gl,h.wg,h.l0⟩
   ·unfold Po.obs at hx
    simp only[aC,dJ] at hx ⊢
    have:=hs x
    unfold Po.obs at this
    simp only[aC] at this
    rcases hx with q|(q|q)|q
    ·exact .inl (this (.inl q))
    ·exact .inl (this (.inr (.inl q)))
    ·exact .inr q
    ·exact .inl (this (.inr (.inr q)))
   ·have e1:(⟨(takeD mn O e p.d k v false).1,p.most,p.R,p.T++[(takeD mn O e p.d k v false).2.2],p.W,p.G,p.last,p.cl⟩:Po).obs.Perm ((takeD mn O e p.d k v false).2.2::p.obs):=by
     unfold Po.obs
     simp only
     refine List.Perm.trans ?_ eO
     refine dZ _ ?_
     rw[bK]
     exact eO
    exact e1.nodup_iff.2 (aR.2 ⟨hn,h.nd⟩)
  ·exact absurd h0 h1
 ·rename_i h0
  rcases ht with⟨h1,_⟩|⟨_,h2⟩
  ·exact absurd h1 h0
  ·cases hr:p.R.getLast? with
   |none=>exact(h.atD hI h2 hs).waitI
   |some o=>
    have er:p.R=p.R.dropLast++[o]:=by
     obtain⟨hne,hx⟩:=eF.1 hr
     rw[hx];simp
    have e1:(⟨(takeD mn O e p.d k v false).1,p.most,p.R.dropLast,p.T++[o],p.W,p.G,p.last,p.cl⟩:Po).obs.Perm p.obs:=by
     unfold Po.obs
     simp only
     conv=>rhs;rw[er]
     rw[bK,bK]
     refine dZ _ ?_
     exact eO
    refine⟨hI,⟨l,h2,fun x hx=>hs x (e1.mem_iff.1 hx)⟩,e1.nodup_iff.2 h.nd,h.m1,?_,h.w,h.asc,h.wl,h.gn,h.gl,h.wg,h.l0⟩
    simp only[List.length_dropLast];have:=h.r;omega
theorem perm_obs {R T:List Ob} {G:List (Int×Ob)} (o:Ob) (t:Int):(R++(T++(G++[(t,o)]).map (·.2))).Perm (o::(R++(T++G.map (·.2)))):=by
 simp only[dX,bF,dV]
 rw[←bK,←bK]
 refine List.perm_append_comm.trans ?_
 simp
theorem wR (h:o∈p.T):p.obs.Perm (o::(p.R++(p.T.erase o++p.G.map (·.2)))):=by
 unfold Po.obs
 refine List.Perm.trans ?_ eO
 exact dZ _ ((List.perm_cons_erase h).append_right _)
theorem kJ.back (h:kJ e p) (ho:o∈p.T) (hk:kV p k=true):kJ e (Dw e p k o).1:=by
 have pe:=wR ho
 have nd:=pe.nodup_iff.1 h.nd
 obtain⟨n1,n2⟩:=aR.1 nd
 obtain⟨l,hm,hs⟩:=h.mo
 unfold Dw
 split
 ·rename_i t W hW
  have hw:=h.w;have ha:=h.asc;rw[hW] at hw ha
  have e1:(⟨p.d,p.most,p.R,p.T.erase o,W,p.G++[(t,o)],p.last,p.cl⟩:Po).obs.Perm p.obs:=(perm_obs o t).trans pe.symm
  refine⟨h.inv,⟨l,hm,fun x hx=>hs x (e1.mem_iff.1 hx)⟩,e1.nodup_iff.2 h.nd,h.m1,h.r,by simp at hw ⊢;omega,(aZ.1 ha).2,fun s q=>h.wl s (by rw[hW];exact au _ q),?_,fun g hg=> ?_,fun g hg q=> ?_,h.l0⟩
  ·simp only[dX,bF,dV]
   rw[aX]
   refine⟨h.gn,sI,fun a ha' b hb q=> ?_⟩
   simp at hb
   subst hb q
   obtain⟨g,hg,hge⟩:=bR.1 ha'
   exact h.wg g hg (by rw[hge,hW];exact aG ..)
  ·rcases aC.1 hg with q|q
   ·exact h.gl g q
   ·simp at q;subst q;exact h.wl t (by rw[hW];exact aG ..)
  ·rcases aC.1 hg with r|r
   ·exact h.wg g r (by rw[hW];exact au _ q)
   ·simp at r;subst r
    have:=(aZ.1 ha).1 _ q
    simp at this
 ·rename_i hW
  split
  ·rename_i hr
   have e1:(⟨p.d,p.most,p.R++[o],p.T.erase o,[],p.G,p.last,p.cl⟩:Po).obs.Perm p.obs:=by
    refine List.Perm.trans ?_ pe.symm
    unfold Po.obs
    simp only
    rw[bK]
    exact eO
   exact⟨h.inv,⟨l,hm,fun x hx=>hs x (e1.mem_iff.1 hx)⟩,e1.nodup_iff.2 h.nd,h.m1,by simp;omega,sI,List.Pairwise.nil,fun s q=>(by cases q),h.gn,h.gl,fun g hg q=>(by cases q),h.l0⟩
  ·unfold kV at hk
   simp at hk
   obtain⟨i,hi,hx⟩:=gU.1 (hs o (pe.mem_iff.2 (aG ..)))
   have hg:=hm.give (k:=k) (sO hk.1 hk.2) (ak.2 ⟨hi,hx⟩)
   refine⟨wF h.inv,⟨_,hg,fun x hx'=> ?_⟩,n2,h.m1,h.r,sI,List.Pairwise.nil,fun s q=>(by cases q),h.gn,h.gl,fun g hg q=>(by cases q),h.l0⟩
   refine(yA hm.nd (ak.2 ⟨hi,hx⟩) x).2 ⟨hs x (pe.mem_iff.2 (au _ hx')),fun q=> ?_⟩
   subst q
   exact n1 hx'
theorem kJ.give (h:kJ e p) (k:Int) (o:Ob):kJ e (oI e p k o).1:=by
 unfold oI
 split
 ·exact h
 split
 ·exact h
 rename_i hw
 split
 ·rename_i ho
  exact h.back ho (by simpa using hw)
 ·exact h
theorem Dx (h:oJ p.G t=some o):(t,o)∈p.G:=by
 unfold oJ at h
 rw[cO] at h
 obtain⟨g,h1,rfl⟩:=h
 have h2:=List.find?_some h1
 simp at h2
 subst h2
 exact eB h1
theorem Dy {G:List (Int×Ob)} (hn:(G.map (·.1)).Nodup) (h:(t,o)∈G):G.Perm ((t,o)::delG G t):=by
 induction G with
 |nil=>cases h
 |cons a G ih=>
  rw[bF,aR] at hn
  unfold delG at ih ⊢
  rw[gK]
  rcases aB.1 h with q|q
  ·subst q
   have hf:G.filter (fun g=>g.1 !=t)=G:=by
    rw[dQ]
    intro g hg
    simp only[bne_iff_ne,ne_eq]
    intro r
    exact hn.1 (bR.2 ⟨g,hg,r⟩)
   simp[hf]
  ·have hne:a.1≠t:=fun r=>hn.1 (bR.2 ⟨_,q,r.symm⟩)
   simp only[bne_iff_ne,ne_eq,hne,not_false_eq_true,if_true]
   exact((ih hn.2 q).cons a).trans (List.Perm.swap ..)
theorem kJ.fetch (h:kJ e p) (hf:oJ p.G t=some o):kJ e (p.fetch t o)∧o∉p.T:=by
 have hm:=Dx hf
 have pg:=Dy h.gn hm
 have e1:(p.fetch t o).obs.Perm p.obs:=by
  unfold Po.obs Po.fetch
  simp only
  refine dZ _ ?_
  rw[bK]
  refine dZ _ ?_
  exact(pg.map (·.2)).symm
 obtain⟨l,h1,h2⟩:=h.mo
 have gs: ∀g∈delG p.G t,g∈p.G∧g.1≠t:=fun g hg=>by
  unfold delG at hg
  simpa using hg
 refine⟨⟨h.inv,⟨l,h1,fun x hx=>h2 x (e1.mem_iff.1 hx)⟩,e1.nodup_iff.2 h.nd,h.m1,h.r,h.w,h.asc,h.wl,h.gn.sublist ((List.filter_sublist).map _),fun g hg=>h.gl g (gs g hg).1,fun g hg=>h.wg g (gs g hg).1,h.l0⟩,fun q=> ?_⟩
 have nd:=h.nd
 unfold Po.obs at nd
 have:=(aX.1 (aX.1 nd).2.1).2.2 o q o (bR.2 ⟨_,hm,rfl⟩)
 exact this rfl
theorem kJ.ready (h:kJ e p) (t:Int):kJ e (lN p t).1:=by
 unfold lN
 split
 ·exact h
 split
 ·exact h
 split
 ·exact h
 ·rename_i o hf
  exact(h.fetch hf).1
end
end
section
open Go.RowKit Go.Maps
section
variable {σ:Type} {w0:World}
def drS (E:FEnv σ w0) (X F:List Nat) (d:σ) (w:World):Prop:=∃Z H,E.S Z (H++F) d w∧(∀x∈X,x∈Z)∧(∀z∈Z,z∈X∨z∈H)∧(∀h∈H,h∉X)∧∀f∈F,f∈X
variable {E:FEnv σ w0} {X Y F G:List Nat} {d d':σ} {w w':World} {r:Value} {en:Ending}
theorem drS.of (h:E.S X F d w):drS E X F d w:=⟨X,[],h,fun _ q=>q,fun _ q=>.inl q,fun _ q=>(by cases q),fun f q=>E.nY h f q⟩
theorem drS.post {Z H:List Nat} (h1: ∀x∈X,x∈Z) (h2: ∀z∈Z,z∈X∨z∈H) (h3: ∀h∈H,h∉X) (h4: ∀f∈F,f∈X) (hl: ∀z∈Z,z<w.heap.size) (hp:EPost E.S Z (H++F) d' w r en w'):EPost (drS E) X F d' w r en w':=by
 obtain⟨he,Z',k1,k2,k3,k4⟩:=hp
 refine⟨he,Z'.filter (fun z=>decide (z∉H)),⟨Z',H,k1,fun x q=>(bH.1 q).1,fun z q=> ?_,fun z q t=>by have:=(bH.1 t).2;simp at this;exact this q,fun f q=> ?_⟩,k2.mono fun s q=> ?_,fun x q=> ?_,fun x q=> ?_⟩
 ·by_cases t:z∈H
  ·exact .inr t
  ·exact .inl (bH.2 ⟨q,by simpa using t⟩)
 ·exact bH.2 ⟨k4 f (h1 f (h4 f q)),by simpa using fun t=>h3 f t (h4 f q)⟩
 ·obtain⟨q1,q2⟩:=iO.1 q
  exact iO.2 ⟨(h2 s q1).resolve_right fun t=>q2 (av _ t),fun t=>q2 (aj _ t)⟩
 ·obtain⟨q1,q2⟩:=bH.1 q
  simp at q2
  rcases k3 x q1 with t|t
  ·exact .inl ((h2 x t).resolve_right q2)
  ·exact .inr t
 ·exact bH.2 ⟨k4 x (h1 x q),by simpa using fun t=>h3 x t q⟩
def FEnv.dr (E:FEnv σ w0):FEnv σ w0 where
 S:=drS E
 bel:=fun⟨Z,H,h,_⟩=>E.bel h
 lim:=fun⟨Z,H,h,h1,_⟩ x hx=>E.lim h x (h1 x hx)
 nY:=fun⟨Z,H,h,h1,h2,h3,h4⟩=>h4
 go:=fun⟨Z,H,h,hr⟩ k=>⟨Z,H,E.go h k,hr⟩
 other:=fun⟨Z,H,h,hr⟩ k hs=>⟨Z,H,E.other h k (fun g q=>aj _ (hs g q)),hr⟩
 Bo:=fun {X F G Y d w w'} ⟨Z,H,h,h1,h2,h3,h4⟩ k hs hy=>by
  refine⟨Y++Z,H,E.xw (E.Bo h k (fun g q=>aj _ (hs g q)) hy) (fun g q=> ?_),fun x q=> ?_,fun z q=> ?_,fun z q t=> ?_,fun f q=> ?_⟩
  ·rcases aC.1 q with t|t
   ·exact aj _ (av _ t)
   ·rcases aC.1 t with u|u
    ·exact av _ u
    ·exact aj _ (aj _ u)
  ·rcases aC.1 q with t|t
   ·exact av _ t
   ·exact aj _ (h1 x t)
  ·rcases aC.1 q with t|t
   ·exact .inl (av _ t)
   ·exact(h2 z t).imp (fun u=>aj _ u) id
  ·rcases aC.1 t with u|u
   ·have:=(hy z u).1
    have:=(E.lim h z (E.nY h z (av _ q))).2
    omega
   ·exact h3 z q u
  ·rcases aC.1 q with t|t
   ·exact av _ t
   ·exact aj _ (h4 f t)
 xw:=fun {X F G d w} ⟨Z,H,h,h1,h2,h3,h4⟩ hs=>⟨Z,H,E.xw h (fun g q=>by
  rcases aC.1 q with t|t
  ·exact av _ t
  ·exact aj _ (hs g t)),h1,h2,h3,fun f q=>h4 f (hs f q)⟩
theorem FEnv.drop (h:E.dr.S X F d w) (hY: ∀y∈Y,y∈X) (hX: ∀x∈X,x∈Y∨x∈F) (hG: ∀g∈G,g∈F∧g∈Y):E.dr.S Y G d w:=by
 obtain⟨Z,H,h,h1,h2,h3,h4⟩:=h
 refine⟨Z,H++F.filter (fun f=>decide (f∉Y)),E.xw h fun g q=> ?_,fun x q=>h1 x (hY x q),fun z q=> ?_,fun z q t=> ?_,fun f q=>(hG f q).2⟩
 ·rcases aC.1 q with t|t
  ·rcases aC.1 t with u|u
   ·exact av _ u
   ·exact aj _ (bH.1 u).1
  ·exact aj _ (hG g t).1
 ·rcases h2 z q with t|t
  ·by_cases u:z∈Y
   ·exact .inl u
   ·exact .inr (aj _ (bH.2 ⟨(hX z t).resolve_left u,by simpa using u⟩))
  ·exact .inr (av _ t)
 ·rcases aC.1 q with u|u
  ·exact h3 z u (hY z t)
  ·have:=(bH.1 u).2;simp at this;exact this t
end
section
variable {pd pc pz e:Nat} {mn:Int} {O:List (List Int)} {ev:Nat→Addr} {w0:World}
def uo.dr (E:uo pd pc pz e mn O ev w0):uo pd pc pz e mn O ev w0 where
 toFEnv:=E.toFEnv.dr
 inv:=fun⟨Z,H,h,_⟩=>E.inv h
 ord:=fun⟨Z,H,h,_⟩=>E.ord h
 err:=E.err
 take:=fun k n u ⟨Z,H,h,h1,h2,h3,h4⟩=>(E.take k n u h).mono fun r w' hp=>drS.post h1 h2 h3 h4 (fun z q=>(E.lim h z q).2) hp
 give:=fun k o ⟨Z,H,h,h1,h2,h3,h4⟩ o1 o2=>(E.give k o h o1 o2).mono fun r w' hp=>drS.post h1 h2 h3 h4 (fun z q=>(E.lim h z q).2) hp
 work:=fun⟨Z,H,h,_⟩=>E.work h
 cache:=fun⟨Z,H,h,_⟩=>E.cache h
 zone:=fun⟨Z,H,h,_⟩=>E.zone h
 free:=fun v ⟨Z,H,h,_⟩=>E.free v h
end
end
end Go.Proofs.YtdcbhlcbiokbeaaGreatDoor
