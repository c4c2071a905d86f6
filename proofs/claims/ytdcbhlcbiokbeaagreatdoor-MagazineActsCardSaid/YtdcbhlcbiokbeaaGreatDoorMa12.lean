/- Lemmas and contracts for the claim's last text: DTake, SAp, DTakeA, DLie, DOut. -/
import Derived.Test.YtdcbhlcbiokbeaaGreatDoorMa01
import Derived.Test.YtdcbhlcbiokbeaaGreatDoorMa10
import Derived.Test.YtdcbhlcbiokbeaaGreatDoorMa11
set_option linter.unusedSimpArgs false
set_option linter.unusedVariables false
set_option maxHeartbeats 16000000
set_option maxRecDepth 100000
namespace Go.Proofs.YtdcbhlcbiokbeaaGreatDoor
section
open Go.RowKit Go.Maps
attribute [local go_sem ↓] aW aX
section
variable {X Y S F:List Nat} {B:Nat} {ev:Nat→Addr} {w w':World} {pd pc pz gh e:Nat} {mn lw hi:Int} {O:List (List Int)} {v vp vp':Value} {A:SA} {V:HV} {U U':List Value} {d:De} {c:Ca} {P':List (List Ob)}
theorem CD.far (h:CD B w X pd pc pz gh mn lw hi O e v A V vp U d) (y:Nat) (hy:y∈day pd gh vp):y∈X∧y∉cay pc v A∧y∉ys d.c.L:=⟨h.de.mem y hy,h.ne y hy⟩
theorem CD.jm (h:CD B w X pd pc pz gh mn lw hi O e v A V vp U d):gh∈day pd gh vp:=ak _ (aD ..)
theorem CD.mU (h:CD B w X pd pc pz gh mn lw hi O e v A V vp U d):pd∈day pd gh vp:=aD ..
theorem CD.oF (h:CD B w X pd pc pz gh mn lw hi O e v A V vp U d) (k:Nat) {p':Value×Value} {h':Hd} (hk:k<d.H.length) (r1:j5 X w p'.1 h'.1) (r2:j5 X w p'.2 h'.2) (kk:Keep [gh] w w') (hg:iy w' gh (iX (V.set k p'))):
 CD B w' X pd pc pz gh mn lw hi O e v A (V.set k p') vp U ⟨d.c,d.H.set k h',d.P⟩:=by
 obtain⟨n0,nn⟩:=aZ.1 h.de.nd
 obtain⟨n1,n2⟩:=aZ.1 nn
 have hpg:pd≠gh:=fun q=>n0 (q▸aD ..)
 have fg:=h.far gh h.jm
 have hs: ∀s∈[gh],s∈X∨w.heap.size≤s:=fun s q=>by simp at q;subst q;exact .inl fg.1
 refine⟨h.x,h.limK kk,h.cs.z.keep kk (fun s q=>by simp at q;subst q;exact .inl ⟨fg.1,fg.2.2⟩) |> fun z=>⟨z,h.cs.ch.keep kk (fun s q=>by simp at q;subst q;exact fg.2.1),h.cs.ne,h.cs.l0⟩,?_,h.ne⟩
 refine⟨?_,hg,by simp[h.de.hl],fun i p g hp hg'=> ?_,iE h.de.row kk (fun s q=>by simp at q;subst q;exact n1),h.de.ul,fun i u m hu hm=>(h.de.po i u m hu hm).keep kk hs,h.de.mem,h.de.nd,fun y hy=>⟨(h.de.lim y hy).1,aF (h.de.lim y hy).2 kk.size⟩⟩
 ·rw[bM]
  exact h.de.d.keep kk (by simpa using hpg)
 ·by_cases q:k=i
  ·subst q
   rw[aL (by rw[h.de.hl];exact hk)] at hp
   rw[aL hk] at hg'
   obtain rfl:=aH hp
   obtain rfl:=aH hg'
   exact⟨r1.keep kk hs,r2.keep kk hs⟩
  ·rw[bD q] at hp hg'
   exact⟨(h.de.ho i p g hp hg').1.keep kk hs,(h.de.ho i p g hp hg').2.keep kk hs⟩
theorem CD.xX (h:CD B w X pd pc pz gh mn lw hi O e v A V vp U d) (k:Nat) {p':Value×Value} {h':Hd} (hk:k<d.H.length) (r1:j5 X w p'.1 h'.1) (r2:j5 X w p'.2 h'.2) (kk:Keep [gh,pd] w w') (hg:iy w' gh (iX (V.set k p')))
 (hd:iy w' pd [.pointer (some ⟨pc,0,none⟩),.slice (some ⟨gh,0,none⟩) d.H.length d.H.length,vp']) (row:w'.ownsRow B 79 1 vp' P'.length U') (ul:U'.length=P'.length)
 (po: ∀(i:Nat) (u:Value) (m:List Ob),U'[i]?=some u→P'[i]?=some m→j5 X w u m) (hown:iF vp'=iF vp):
 CD B w' X pd pc pz gh mn lw hi O e v A (V.set k p') vp' U' ⟨d.c,d.H.set k h',P'⟩:=by
 have fg:=h.far gh h.jm
 have fp:=h.far pd h.mU
 have hs: ∀s∈[gh,pd],s∈X∨w.heap.size≤s:=fun s q=>by
  simp at q
  rcases q with rfl|rfl
  ·exact .inl fg.1
  ·exact .inl fp.1
 have ed:day pd gh vp'=day pd gh vp:=by unfold day;rw[hown]
 refine⟨by unfold xd;rw[ed];exact h.x,h.limK kk,h.cs.z.keep kk (fun s q=>by
  simp at q
  rcases q with rfl|rfl
  ·exact .inl ⟨fg.1,fg.2.2⟩
  ·exact .inl ⟨fp.1,fp.2.2⟩) |> fun z=>⟨z,h.cs.ch.keep kk (fun s q=>by
  simp at q
  rcases q with rfl|rfl
  ·exact fg.2.1
  ·exact fp.2.1),h.cs.ne,h.cs.l0⟩,?_,by rw[ed];exact h.ne⟩
 refine⟨by rw[bM];exact hd,hg,by simp[h.de.hl],fun i p g hp hg'=> ?_,row,ul,fun i u m hu hm=>(po i u m hu hm).keep kk hs,by rw[ed];exact h.de.mem,by rw[ed];exact h.de.nd,fun y hy=> ?_⟩
 ·by_cases q:k=i
  ·subst q
   rw[aL (by rw[h.de.hl];exact hk)] at hp
   rw[aL hk] at hg'
   obtain rfl:=aH hp
   obtain rfl:=aH hg'
   exact⟨r1.keep kk hs,r2.keep kk hs⟩
  ·rw[bD q] at hp hg'
   exact⟨(h.de.ho i p g hp hg').1.keep kk hs,(h.de.ho i p g hp hg').2.keep kk hs⟩
 ·rw[ed] at hy
  exact⟨(h.de.lim y hy).1,aF (h.de.lim y hy).2 kk.size⟩
theorem CD.hand (h:CD B w X pd pc pz gh mn lw hi O e v A V vp U d) {k:Nat} {g:Hd} (hk:d.H[k]?=some g): ∃p,V[k]?=some p∧j5 X w p.1 g.1∧j5 X w p.2 g.2∧w.cell? ⟨gh,k*2,none⟩=some p.1∧w.cell? ⟨gh,k*2+1,none⟩=some p.2∧w.frozen? ⟨gh,k*2,none⟩=false∧w.frozen? ⟨gh,k*2+1,none⟩=false∧gh<w.heap.size:=by
 have hl:=(aj.1 hk).1
 obtain⟨p,hp⟩: ∃p,V[k]?=some p:=⟨V[k]'(by rw[h.de.hl];exact hl),au _⟩
 obtain⟨g1,g2⟩:=jX hp
 obtain⟨o1,o2⟩:=h.de.ho k p g hp hk
 have hv:V.length=d.H.length:=h.de.hl
 exact⟨p,hp,o1,o2,h.de.hs.c _ _ g1,h.de.hs.c _ _ g2,h.de.hs.f _ (by rw[iR];omega),h.de.hs.f _ (by rw[iR];omega),h.de.hs.lt⟩
theorem CD.loc1 (h:CD B w X pd pc pz gh mn lw hi O e v A V vp U d) {k:Nat} {p:Value×Value} (hp:V[k]?=some p) (hk:k<d.H.length) (x:Value):iy (w.setCell ⟨gh,k*2,none⟩ x) gh (iX (V.set k (x,p.2))):=by
 have hv:V.length=d.H.length:=h.de.hl
 have h1:=h.de.hs.store (k*2) x (by rw[iR];omega)
 rw[rG _ om]
 have h2:=(jX hp).2
 have e1:((iX V).set (k*2) x).set (k*2+1) p.2=(iX V).set (k*2) x:=by
  apply gM
  intro i
  by_cases q:k*2+1=i
  ·subst q
   rw[aL (by rw[bM,iR];omega),bD om,h2]
  ·rw[bD q]
 simp only[e1]
 exact h1
theorem vH {g k:Nat} {W:World} (h:iy W g (iX V)) {p:Value×Value} (hp:V[k]?=some p) (x:Value):iy (W.setCell ⟨g,k*2,none⟩ x) g (iX (V.set k (x,p.2))):=by
 have hk:=(aj.1 hp).1
 have h1:=h.store (k*2) x (by rw[iR];omega)
 rw[rG _ hk]
 have h2:=(jX hp).2
 have e1:((iX V).set (k*2) x).set (k*2+1) p.2=(iX V).set (k*2) x:=by
  apply gM
  intro i
  by_cases q:k*2+1=i
  ·subst q
   rw[aL (by rw[bM,iR];omega),bD om,h2]
  ·rw[bD q]
 simp only[e1]
 exact h1
theorem hloc2 {g k:Nat} {W:World} (h:iy W g (iX V)) {p:Value×Value} (hp:V[k]?=some p) (x:Value):iy (W.setCell ⟨g,k*2+1,none⟩ x) g (iX (V.set k (p.1,x))):=by
 have hk:=(aj.1 hp).1
 have h1:=h.store (k*2+1) x (by rw[iR];omega)
 rw[rG _ hk]
 have h2:=(jX hp).1
 have e1:(iX V).set (k*2) p.1=iX V:=by
  apply gM
  intro i
  by_cases q:k*2=i
  ·subst q
   rw[aL (by rw[iR];omega),h2]
  ·rw[bD q]
 simp only[e1]
 exact h1
theorem zH {k:Nat} (p q:Value×Value):(V.set k p).set k q=V.set k q:=List.set_set ..
theorem sJ {k:Nat} (hk:k<V.length) (p:Value×Value):(V.set k p)[k]?=some p:=aL hk
def mV (B:Nat) (ev:Nat→Addr) (pd pc pz gh:Nat) (mn lw hi:Int) (O:List (List Int)) (e:Nat) (X F:List Nat) (w:World) (r:De×Nat×Ob) (en:Ending) (w':World):Prop:=
 en= .returned (.tuple #[obV r.2.2,jB ev r.2.1])∧∃X',CDx B w' X' F pd pc pz gh mn lw hi O e r.1∧Keep (off X F) w w'∧(∀x∈X',x∈X∨w.heap.size≤x)∧∀x∈X,x∈X'
theorem Gb (k n:Int) (u:Bool) (hE:qM B ev w) (h:CD B w X pd pc pz gh mn lw hi O e v A V vp U d) (hF:Hid (∀f∈F,f∈X∧f∉xd pc v A d.c.L pd gh vp)) (hk:jI d k=none):
 Calls Tryz.prog 37 #[.pointer (some ⟨pd,0,none⟩),.int .i64 k,.int .i64 n,.bool u] w (mV B ev pd pc pz gh mn lw hi O e X F w (takeD mn O e d k n u)):=by
 rw[mQ hk]
 have b1:Below w.heap.size w (w.alloc (.cells #[.int .i64 0,.int .i64 0] 49)):=iB
 have L1:=ah (iy.mk_ w [.int .i64 0,.int .i64 0] 49 rfl)
 have NO:=ah (vG (hE.go b1).c (h.below b1) k (nZ hk))
 have e1:jB ev 2= .iface 434 (.pointer (some (ev 2))):=rfl
 have FIN:Hid (∀W,Below w.heap.size w W→mV B ev pd pc pz gh mn lw hi O e X F w (d,2,(0,0)) (.returned (.tuple #[.agg #[.int .i64 0,.int .i64 0],.iface 434 (.pointer (some (ev 2)))])) W):=fun W b=>⟨rfl,X,⟨_,_,_,_,_,h.below b,hF.out⟩,Keep.of b,fun _ q=>.inl q,fun _ q=>q⟩
 rw[e1] at NO
 clear h hk hE e1 b1
 go_enter Tryz.func37,gZ
 go_wp2_with fail
 refine NO.out.mono ?_
 rintro r w1 ⟨rfl,hb1⟩
 have M:=L1.out.go hb1
 have m0:=M.c 0 _ rfl;have m1:=M.c 1 _ rfl;have f0:=M.f 0 sI;have f1:=M.f 1 sI;have ml:=M.lt
 have HM:=ah (M.jC (.int .i64 0) (.int .i64 0))
 clear M NO L1
 go_wp2
 have x0:=HM.out.c 0 _ rfl;have x1:=HM.out.c 1 _ rfl
 exact bodyPost_ret (v:=.tuple #[.agg #[.int .i64 0,.int .i64 0],.iface 434 (.pointer (some (ev 2)))]) (by simp[x0,x1,results,gG,go_sem]) rfl (FIN.out _ iB)
end
end
section
open Go.RowKit Go.Maps
theorem x9 (e:Nat) (C:List Sl):(jQ e C).length=nD C:=by
 unfold jQ nD
 rw[List.length_flatMap]
 congr 1
 refine List.map_congr_left fun s _=> ?_
 unfold obsS iD jG
 rw[List.length_filterMap_eq_countP]
 have key: ∀T:List Bool,(List.range T.length).countP (fun k=>(if T[k]?=some true then some (mg e s k) else none).isSome)=T.countP id:=by
  intro T
  induction T with
  |nil=>rfl
  |cons b T ih=>
   rw[dw,List.range_succ_eq_map,List.countP_cons,List.countP_map]
   have e2:(List.range T.length).countP ((fun k=>(if (b::T)[k]?=some true then some (mg e s k) else none).isSome) ∘ Nat.succ)=(List.range T.length).countP (fun k=>(if T[k]?=some true then some (mg e s k) else none).isSome):=by
    refine List.countP_congr fun k _=> ?_
    simp only[Function.comp,List.getElem?_cons_succ,Nat.succ_eq_add_one]
    by_cases q:T[k]?=some true<;>simp[q]
   rw[e2,ih]
   cases b<;>simp
 exact key s.T
theorem jy {e:Nat} {c:Ca} (h:l8 e c):(jQ e c.C).length≤65536:=by
 rw[x9]
 obtain⟨h1,h2⟩:=xR (C:=c.C) fun s hs=>by rw[h.len s hs];unfold iM;exact bU _ _
 have:=h.few
 omega
structure ApS (B:Nat) (w0:World) (pc pz:Nat) (mn lw hi:Int) (O:List (List Int)) (e:Nat) (L:List Nd) (X:List Nat) (v:Value) (A:SA) (c:Ca) (w:World):Prop where
 cs:CS B w pc pz mn lw hi O e X v A c
 inv:l8 e c
 only:OnlyP c
 same:l6 L c.L
 bel:Below B w0 w
section
variable {B:Nat} {ev:Nat→Addr} {w0 w w':World} {pc pz e:Nat} {mn lw hi:Int} {O:List (List Int)} {L:List Nd} {X:List Nat} {v:Value} {A:SA} {c:Ca}
end
end
section
open Go.RowKit Go.Maps
attribute [local go_sem ↓] aW aX
section
variable {X Y S F:List Nat} {B:Nat} {ev:Nat→Addr} {w w':World} {pd pc pz gh e:Nat} {mn lw hi:Int} {O:List (List Int)} {v vp vp':Value} {A:SA} {V:HV} {U U':List Value} {d:De} {c:Ca} {P':List (List Ob)}
theorem jo {k:Nat} {g:Hd} (h:d.H[k]?=some g):jI d k=some g:=by
 unfold jI
 rw[if_neg om,bJ,h]
theorem dtake_A (k:Nat) (n:Int) (u:Bool) (h:CD B w X pd pc pz gh mn lw hi O e v A V vp U d) (hF:Hid (∀f∈F,f∈X∧f∉xd pc v A d.c.L pd gh vp)) (hI:jY e d) {l r:List Ob} {o:Ob} (hk:d.H[k]?=some (l++[o],r)):
 Calls Tryz.prog 37 #[.pointer (some ⟨pd,0,none⟩),.int .i64 k,.int .i64 n,.bool u] w (mV B ev pd pc pz gh mn lw hi O e X F w (takeD mn O e d k n u)):=by
 have hkl:=(aj.1 hk).1
 have hl4:=(hI.h4 _ (aB hk)).1
 have ld:je (l++[o],r) d.P=((l++[o],r),d.P):=by unfold je;rw[if_neg sI]
 have et:takeD mn O e d k n u=(⟨d.c,d.H.set k (l,r),d.P⟩,0,o):=by
  rw[jD (jo hk) (o:=o) (by rw[ld];simp),ld]
  simp
 rw[et]
 have b1:Below w.heap.size w (w.alloc (.cells #[.int .i64 0,.int .i64 0] 49)):=iB
 have L1:=ah (show iy (w.alloc (.cells #[.int .i64 0,.int .i64 0] 49)) w.heap.size [.int .i64 0,.int .i64 0] from iy.mk_ w [.int .i64 0,.int .i64 0] 49 rfl)
 obtain⟨W1,hW1⟩: ∃W1,W1=w.alloc (.cells #[.int .i64 0,.int .i64 0] 49):=⟨_,rfl⟩
 have h1:=h.below b1
 rw[←hW1] at b1 L1 h1
 have s1:W1.heap.size=w.heap.size+1:=by rw[hW1];simp
 obtain⟨p,hp,o1,o2,g0,g1,f0,f1,gl⟩:=h1.hand hk
 obtain⟨⟨pa,pb⟩,rfl⟩: ∃q,q=p:=⟨_,rfl⟩
 obtain⟨q,cap,e1,cp1,cp2⟩:=o1.isSlice
 obtain⟨q2,cap2,e2,_,_⟩:=o2.isSlice
 simp only at e1 e2 g0 g1 hp
 subst e1 e2
 obtain⟨og,off,rfl,_,ogl,t0,t1⟩:=j5.at (by simpa using o1) (j:=l.length) (o:=o) sI
 obtain⟨qp,kp,evp⟩: ∃qp kp,vp= .slice qp d.P.length kp:=by
  rcases h1.de.row.2 with⟨a1,a2⟩|⟨_,cap',_,a1,_⟩
  ·exact⟨none,0,by rw[a1,a2]⟩
  ·exact⟨_,cap',a1⟩
 have c0:=h1.de.d.c 0 _ rfl;have c1:=h1.de.d.c 1 _ rfl;have c2:=h1.de.d.c 2 _ rfl;have cl:=h1.de.d.lt
 rw[evp] at c2
 have pl:d.P.length≤65536:=by
  have hh:=(ji hI).1
  have h2:=jy hI.c
  omega
 have e3:(l++[o]).length=l.length+1:=sI
 rw[e3] at g0 hl4 cp1
 obtain⟨m,hm⟩: ∃m,m=l.length:=⟨_,rfl⟩
 rw[←hm] at g0 t0 t1 hl4 cp1
 have HD:=ah (lW h1 k hkl)
 have hw1:IntKind.i64.wrap (((m+1:Nat):Int)-1)=(m:Int):=by rw[aP _ om];omega
 have hw2:IntKind.i64.wrap ((d.P.length:Int)-1)=(d.P.length:Int)-1:=aP _ om
 have d1:decide ((m+1:Nat)=0)=false:=sI
 have d2:decide ((m:Int)<0)=false:=decide_eq_false om
 have rg: ¬(w.heap.size=gh):=fun q=>by have:=(h.de.lim gh h.jm).2;omega
 have gr: ¬(gh=w.heap.size):=fun q=>rg q.symm
 obtain⟨p',hp',o1',o2',_⟩:=h.hand hk
 rw[hp] at hp'
 obtain rfl:=aH hp'
 have ro1:j5 X w (.slice (some ⟨og,off,none⟩) m cap) l:=by
  obtain⟨q',cap',e4,e5⟩:=o1'.cut m (by rw[hm];simp)
  simp only at e4
  injection e4 with e6 _ e7
  subst e6 e7
  simpa[hm] using e5
 have rQ:Hid (∀W,Keep [gh] w W→iy W gh (iX (V.set k (.slice (some ⟨og,off,none⟩) m cap,.slice q2 r.length cap2)))→mV B ev pd pc pz gh mn lw hi O e X F w (⟨d.c,d.H.set k (l,r),d.P⟩,0,o) (.returned (.tuple #[.agg #[.int .i64 o.1,.int .i64 o.2],.nilIface])) W):=fun W kk hg=>
  ⟨rfl,X,⟨_,_,_,_,_,h.oF k (p':=(.slice (some ⟨og,off,none⟩) m cap,.slice q2 r.length cap2)) (h':=(l,r)) hkl ro1 o2' kk hg,hF.out⟩,kk.mono (fun s q=>by simp at q;subst q;exact h.G9 hF.out h.jm),fun _ q=>.inl q,fun _ q=>q⟩
 have HLOC:=ah (h1.loc1 hp hkl (.slice (some ⟨og,off,none⟩) m cap))
 have HLB:=ah (fun(x:Obj)=>(h1.below (w':=W1.alloc x) iB).loc1 hp hkl (.slice (some ⟨og,off,none⟩) m cap))
 have HB1:=ah b1;have HS1:=ah s1
 have rl:w.heap.size<W1.heap.size:=om
 have LL:=L1.out
 have v0:=LL.c 0 _ rfl;have v1:=LL.c 1 _ rfl;have vf0:=LL.f 0 sI;have vf1:=LL.f 1 sI
 clear h h1 hI hk hp o1 o2 o1' o2' ro1 e3 hm ld et b1 s1 evp hp'
 go_enter Tryz.func37,gZ
 go_wp2_with fail
 rw[←hW1]
 clear hW1
 refine HD.out.mono ?_
 rintro r' w1 ⟨rfl,rfl⟩
 go_wp2
 have M:=ah ((((L1.out.far (c:=gh) gr (k*2) (.slice (some ⟨og,off,none⟩) m cap)).jC (.int .i64 o.1) (.int .i64 o.2))).past (.cells #[.int .i64 o.1,.int .i64 o.2] 49))
 have x0:=M.out.c 0 _ rfl;have x1:=M.out.c 1 _ rfl
 refine bodyPost_ret (v:=.tuple #[.agg #[.int .i64 o.1,.int .i64 o.2],.nilIface]) (by simp[x0,x1,results,gG,go_sem]) rfl (rQ.out _ ?_ ?_)
 ·exact(((((Keep.of HB1.out).setCell (p:=⟨gh,k*2,none⟩) (.inl sI) _).setCell (p:=⟨w.heap.size,0,none⟩) (.inr (aI _)) _).setCell (p:=⟨w.heap.size,1,none⟩) (.inr (aI _)) _).alloc _)
 ·exact((HLOC.out.far rg 0 _).far rg 1 _).past _
theorem dtake_B (k:Nat) (n:Int) (u:Bool) (h:CD B w X pd pc pz gh mn lw hi O e v A V vp U d) (hF:Hid (∀f∈F,f∈X∧f∉xd pc v A d.c.L pd gh vp)) (hI:jY e d) {l:List Ob} {o:Ob} (hk:d.H[k]?=some ([],l++[o])):
 Calls Tryz.prog 37 #[.pointer (some ⟨pd,0,none⟩),.int .i64 k,.int .i64 n,.bool u] w (mV B ev pd pc pz gh mn lw hi O e X F w (takeD mn O e d k n u)):=by
 have hkl:=(aj.1 hk).1
 have hl4:=(hI.h4 _ (aB hk)).2
 have ld:je ([],l++[o]) d.P=((l++[o],[]),d.P):=by unfold je;rw[if_pos rfl,if_neg sI]
 have et:takeD mn O e d k n u=(⟨d.c,d.H.set k (l,[]),d.P⟩,0,o):=by
  rw[jD (jo hk) (o:=o) (by rw[ld];simp),ld]
  simp
 rw[et]
 have b1:Below w.heap.size w (w.alloc (.cells #[.int .i64 0,.int .i64 0] 49)):=iB
 have L1:=ah (show iy (w.alloc (.cells #[.int .i64 0,.int .i64 0] 49)) w.heap.size [.int .i64 0,.int .i64 0] from iy.mk_ w [.int .i64 0,.int .i64 0] 49 rfl)
 obtain⟨W1,hW1⟩: ∃W1,W1=w.alloc (.cells #[.int .i64 0,.int .i64 0] 49):=⟨_,rfl⟩
 have h1:=h.below b1
 rw[←hW1] at b1 L1 h1
 have s1:W1.heap.size=w.heap.size+1:=by rw[hW1];simp
 obtain⟨p,hp,o1,o2,g0,g1,f0,f1,gl⟩:=h1.hand hk
 obtain⟨⟨pa,pb⟩,rfl⟩: ∃q,q=p:=⟨_,rfl⟩
 obtain⟨q2,cap2,e2,_,_⟩:=o1.isSlice
 obtain⟨q,cap,e1,cp1,cp2⟩:=o2.isSlice
 simp only at e1 e2 g0 g1 hp
 subst e1 e2
 obtain⟨og,off,rfl,ogx,ogl,t0,t1⟩:=j5.at (by simpa using o2) (j:=l.length) (o:=o) sI
 obtain⟨qp,kp,evp⟩: ∃qp kp,vp= .slice qp d.P.length kp:=by
  rcases h1.de.row.2 with⟨a1,a2⟩|⟨_,cap',_,a1,_⟩
  ·exact⟨none,0,by rw[a1,a2]⟩
  ·exact⟨_,cap',a1⟩
 have c0:=h1.de.d.c 0 _ rfl;have c1:=h1.de.d.c 1 _ rfl;have c2:=h1.de.d.c 2 _ rfl;have cl:=h1.de.d.lt
 rw[evp] at c2
 have pl:d.P.length≤65536:=by
  have hh:=(ji hI).1
  have h2:=jy hI.c
  omega
 have e3:(l++[o]).length=l.length+1:=sI
 rw[e3] at g1 hl4 cp1
 rw[show([]:List Ob).length=0 from rfl] at g0
 obtain⟨m,hm⟩: ∃m,m=l.length:=⟨_,rfl⟩
 rw[←hm] at g1 t0 t1 hl4 cp1
 have HD:=ah (lW h1 k hkl)
 have hw1:IntKind.i64.wrap (((m+1:Nat):Int)-1)=(m:Int):=by rw[aP _ om];omega
 have hw2:IntKind.i64.wrap ((d.P.length:Int)-1)=(d.P.length:Int)-1:=aP _ om
 have d1:decide ((m+1:Nat)=0)=false:=sI
 have d2:decide ((m:Int)<0)=false:=decide_eq_false om
 have rg: ¬(w.heap.size=gh):=fun q=>by have:=(h.de.lim gh h.jm).2;omega
 have gr: ¬(gh=w.heap.size):=fun q=>rg q.symm
 obtain⟨p',hp',o1',o2',_⟩:=h.hand hk
 rw[hp] at hp'
 obtain rfl:=aH hp'
 have ro1:j5 X w (.slice (some ⟨og,off,none⟩) m cap) l:=by
  obtain⟨q',cap',e4,e5⟩:=o2'.cut m (by rw[hm];simp)
  simp only at e4
  injection e4 with e6 _ e7
  subst e6 e7
  simpa[hm] using e5
 have rQ:Hid (∀W,Keep [gh] w W→iy W gh (iX (V.set k (.slice (some ⟨og,off,none⟩) m cap,.slice q2 0 cap2)))→mV B ev pd pc pz gh mn lw hi O e X F w (⟨d.c,d.H.set k (l,[]),d.P⟩,0,o) (.returned (.tuple #[.agg #[.int .i64 o.1,.int .i64 o.2],.nilIface])) W):=fun W kk hg=>
  ⟨rfl,X,⟨_,_,_,_,_,h.oF k (p':=(.slice (some ⟨og,off,none⟩) m cap,.slice q2 0 cap2)) (h':=(l,[])) hkl ro1 o1' kk hg,hF.out⟩,kk.mono (fun s q=>by simp at q;subst q;exact h.G9 hF.out h.jm),fun _ q=>.inl q,fun _ q=>q⟩
 have vl:V.length=d.H.length:=h1.de.hl
 have HL2:Hid (iy ((W1.setCell ⟨gh,k*2,none⟩ (.slice (some ⟨og,off,none⟩) (m+1) cap)).setCell ⟨gh,k*2+1,none⟩ (.slice q2 0 cap2)).drew gh (iX (V.set k (.slice (some ⟨og,off,none⟩) (m+1) cap,.slice q2 0 cap2)))):=by
  have a1:=vH h1.de.hs hp (.slice (some ⟨og,off,none⟩) (m+1) cap)
  have a2:=hloc2 a1 (sJ om _) (.slice q2 0 cap2)
  rw[zH] at a2
  exact a2.jF
 have SW:=ah (Ce gh (k*2) q2 (some ⟨og,off,none⟩) 0 (m+1) cap2 cap _ _ rfl rfl W1 g0 g1 f0 f1 gl)
 have d3:decide (0<m+1)=true:=sI
 have VL:Hid (k<V.length):=by show k<V.length;omega
 have GO:Hid (¬(og=gh)):=fun q=>ogx (q▸h.de.mem gh h.jm)
 have PG:Hid (¬(pd=gh)):=fun q=>(aZ.1 h.de.nd).1 (q▸aD ..)
 have HB1:=ah b1;have HS1:=ah s1
 have rl:w.heap.size<W1.heap.size:=om
 have LL:=L1.out
 have v0:=LL.c 0 _ rfl;have v1:=LL.c 1 _ rfl;have vf0:=LL.f 0 sI;have vf1:=LL.f 1 sI
 clear h h1 hI hk hp o1 o2 o1' o2' ro1 e3 hm ld et b1 s1 evp hp' f0 f1
 go_enter Tryz.func37,gZ
 go_wp2_with fail
 rw[←hW1]
 clear hW1
 refine HD.out.mono ?_
 rintro r' w1 ⟨rfl,rfl⟩
 go_wp2_with fail
 refine SW.out.mono ?_
 rintro r' w2 ⟨rfl,hw2⟩
 rw[←hw2] at HL2
 have K2:Keep [gh] w1 w2:=by rw[hw2];exact(((Keep.refl _ _).setCell (p:=⟨gh,k*2,none⟩) (.inl sI) _).setCell (p:=⟨gh,k*2+1,none⟩) (.inl sI) _).drew
 have g0':=HL2.out.c (k*2) _ (jX (sJ VL.out _)).1
 have g1':=HL2.out.c (k*2+1) _ (jX (sJ VL.out _)).2
 have f0':=HL2.out.f (k*2) (by rw[iR,bM];have:=VL.out;omega)
 have gl':=HL2.out.lt
 have t0':=(K2.cell (o:=off+m*2) ogl (by simpa using GO.out)).trans t0
 have t1':=(K2.cell (o:=off+m*2+1) ogl (by simpa using GO.out)).trans t1
 have ogl':=aF ogl K2.size
 have c2':=(K2.cell (o:=2) cl (by simpa using PG.out)).trans c2
 have cl':=aF cl K2.size
 have LL2:=L1.out.keep K2 (by simpa using rg)
 have v0':=LL2.c 0 _ rfl;have v1':=LL2.c 1 _ rfl;have vf0':=LL2.f 0 sI;have vf1':=LL2.f 1 sI;have rl':=LL2.lt
 have KW2:=ah ((Keep.of (S:=[gh]) HB1.out).then K2)
 have HL3:=ah (vH HL2.out (sJ VL.out _) (.slice (some ⟨og,off,none⟩) m cap))
 rw[zH] at HL3
 have HLL2:=ah LL2
 clear g0 g1 t0 t1 ogl c0 c1 c2 cl LL v0 v1 vf0 vf1 rl gl hw2 K2 SW HL2 HD LL2
 go_wp2
 have M:=ah ((((HLL2.out.far (c:=gh) gr (k*2) (.slice (some ⟨og,off,none⟩) m cap)).jC (.int .i64 o.1) (.int .i64 o.2))).past (.cells #[.int .i64 o.1,.int .i64 o.2] 49))
 have x0:=M.out.c 0 _ rfl;have x1:=M.out.c 1 _ rfl
 refine bodyPost_ret (v:=.tuple #[.agg #[.int .i64 o.1,.int .i64 o.2],.nilIface]) (by simp[x0,x1,results,gG,go_sem]) rfl (rQ.out _ ?_ ?_)
 ·exact(((((KW2.out).setCell (p:=⟨gh,k*2,none⟩) (.inl sI) _).setCell (p:=⟨w.heap.size,0,none⟩) (.inr (aI _)) _).setCell (p:=⟨w.heap.size,1,none⟩) (.inr (aI _)) _).alloc _)
 ·exact((HL3.out.far rg 0 _).far rg 1 _).past _
theorem dtake_C (k:Nat) (n:Int) (u:Bool) (h:CD B w X pd pc pz gh mn lw hi O e v A V vp U d) (hF:Hid (∀f∈F,f∈X∧f∉xd pc v A d.c.L pd gh vp)) (hI:jY e d) {l:List Ob} {o:Ob} {P0:List (List Ob)} (hk:d.H[k]?=some ([],[])) (hP:d.P=P0++[l++[o]]):
 Calls Tryz.prog 37 #[.pointer (some ⟨pd,0,none⟩),.int .i64 k,.int .i64 n,.bool u] w (mV B ev pd pc pz gh mn lw hi O e X F w (takeD mn O e d k n u)):=by
 have hkl:=(aj.1 hk).1
 have hl4:=hI.p4 (l++[o]) (by rw[hP];simp)
 have ld:je ([],[]) d.P=((l++[o],[]),P0):=by unfold je;rw[if_pos rfl,if_pos rfl,hP];simp
 have et:takeD mn O e d k n u=(⟨d.c,d.H.set k (l,[]),P0⟩,0,o):=by
  rw[jD (jo hk) (o:=o) (by rw[ld];simp),ld]
  simp
 rw[et]
 have b1:Below w.heap.size w (w.alloc (.cells #[.int .i64 0,.int .i64 0] 49)):=iB
 have L1:=ah (show iy (w.alloc (.cells #[.int .i64 0,.int .i64 0] 49)) w.heap.size [.int .i64 0,.int .i64 0] from iy.mk_ w [.int .i64 0,.int .i64 0] 49 rfl)
 obtain⟨W1,hW1⟩: ∃W1,W1=w.alloc (.cells #[.int .i64 0,.int .i64 0] 49):=⟨_,rfl⟩
 have h1:=h.below b1
 rw[←hW1] at b1 L1 h1
 have s1:W1.heap.size=w.heap.size+1:=by rw[hW1];simp
 obtain⟨p,hp,o1,o2,g0,g1,f0,f1,gl⟩:=h1.hand hk
 obtain⟨⟨pa,pb⟩,rfl⟩: ∃q,q=p:=⟨_,rfl⟩
 obtain⟨q2,cap2,e2,_,_⟩:=o1.isSlice
 obtain⟨q3,cap3,e1,_,_⟩:=o2.isSlice
 simp only at e1 e2 g0 g1 hp
 subst e1 e2
 rw[show([]:List Ob).length=0 from rfl] at g0 g1 hp
 have pN:d.P.length=P0.length+1:=by rw[hP];simp
 have hUl:=h1.de.ul
 obtain⟨uu,huu⟩: ∃uu,U[P0.length]?=some uu:=⟨U[P0.length]' om,au _⟩
 have ruu:=h.de.po _ _ _ huu (show d.P[P0.length]?=some (l++[o]) by rw[hP];simp)
 obtain⟨q,cap,e4,cp1,cp2⟩:=ruu.isSlice
 subst e4
 obtain⟨og,off,rfl,ogx,ogl,t0,t1⟩:=j5.at ruu (j:=l.length) (o:=o) sI
 obtain⟨gp,kp,rfl,kp1,kp2,hru⟩: ∃gp kp,vp= .slice (some ⟨gp,0,none⟩) d.P.length kp∧d.P.length≤kp∧kp≤maxLen∧W1.cell? ⟨gp,P0.length,none⟩=some (.slice (some ⟨og,off,none⟩) (l++[o]).length cap):=by
  have ho:=h1.de.row
  rcases h1.de.row.2 with⟨a1,a2⟩|⟨gp,cap',cur,a1,a2,a3,a4,a5,_⟩
  ·omega
  ·subst a1
   refine⟨gp,cap',rfl,a4,a5,?_⟩
   rw[ho.cellAt _ om]
   exact huu
 have c0:=h1.de.d.c 0 _ rfl;have c1:=h1.de.d.c 1 _ rfl;have c2:=h1.de.d.c 2 _ rfl;have cl:=h1.de.d.lt;have cf:=h1.de.d.f 2 sI
 have pl:d.P.length≤65536:=by
  have hh:=(ji hI).1
  have h2:=jy hI.c
  omega
 have e3:(l++[o]).length=l.length+1:=sI
 rw[e3] at hru hl4 cp1
 obtain⟨m,hm⟩: ∃m,m=l.length:=⟨_,rfl⟩
 rw[←hm] at hru t0 t1 hl4 cp1
 obtain⟨N,hN⟩: ∃N,N=P0.length:=⟨_,rfl⟩
 rw[pN,←hN] at c2 kp1 pl
 rw[←hN] at hru
 have HD:=ah (lW h1 k hkl)
 have hw1:IntKind.i64.wrap (((m+1:Nat):Int)-1)=(m:Int):=by rw[aP _ om];omega
 have hw2:IntKind.i64.wrap (((N+1:Nat):Int)-1)=(N:Int):=by rw[aP _ om];omega
 have d1:decide ((m+1:Nat)=0)=false:=sI
 have d2:decide ((m:Int)<0)=false:=decide_eq_false om
 have d4:decide ((0:Int)≤(N:Int))=true:=decide_eq_true om
 have rg: ¬(w.heap.size=gh):=fun q=>by have:=(h.de.lim gh h.jm).2;omega
 have gr: ¬(gh=w.heap.size):=fun q=>rg q.symm
 have rp: ¬(w.heap.size=pd):=fun q=>by have:=(h.de.lim pd h.mU).2;omega
 have PG: ¬(pd=gh):=fun q=>(aZ.1 h.de.nd).1 (q▸aD ..)
 have GP: ¬(gh=pd):=fun q=>PG q.symm
 have gpl:gp<W1.heap.size:=(h1.de.row.lt gp rfl).2
 have t0':=(b1.cell (p:=⟨og,off+m*2,none⟩) ogl).trans t0
 have t1':=(b1.cell (p:=⟨og,off+m*2+1,none⟩) ogl).trans t1
 have ogl':=aF ogl b1.size
 have GO:Hid (¬(og=gh)):=fun q=>ogx (q▸h.de.mem gh h.jm)
 have PO:Hid (¬(og=pd)):=fun q=>ogx (q▸h.de.mem pd h.mU)
 obtain⟨p',hp',o1',o2',_⟩:=h.hand hk
 rw[hp] at hp'
 obtain rfl:=aH hp'
 have ro1:j5 X w (.slice (some ⟨og,off,none⟩) m cap) l:=by
  obtain⟨q',cap',e4,e5⟩:=ruu.cut m (by rw[hm];simp)
  injection e4 with e6 _ e7
  subst e6 e7
  simpa[hm] using e5
 have vl:V.length=d.H.length:=h1.de.hl
 have VL:Hid (k<V.length):=by show k<V.length;omega
 have rQ:Hid (∀W,Keep [gh,pd] w W→iy W gh (iX (V.set k (.slice (some ⟨og,off,none⟩) m cap,.slice q3 0 cap3)))→iy W pd [.pointer (some ⟨pc,0,none⟩),.slice (some ⟨gh,0,none⟩) d.H.length d.H.length,.slice (some ⟨gp,0,none⟩) N kp]→mV B ev pd pc pz gh mn lw hi O e X F w (⟨d.c,d.H.set k (l,[]),P0⟩,0,o) (.returned (.tuple #[.agg #[.int .i64 o.1,.int .i64 o.2],.nilIface])) W):=fun W kk hg hd=>by
  have hrow:w.ownsRow B 79 1 (.slice (some ⟨gp,0,none⟩) P0.length kp) P0.length (U.take P0.length):=by
   obtain⟨rest,y1,y2,y3,y4,y5,y6⟩:=BQ h.de.row
   have:=y1.own y6 (n:=P0.length) (by rw[y2];omega) (by rw[y2];exact y5)
   rw[y2] at this
   rw[bY om] at this
   exact this
  have hrow':W.ownsRow B 79 1 (.slice (some ⟨gp,0,none⟩) P0.length kp) P0.length (U.take P0.length):=iE hrow kk (fun s hs q=>by
   have hq:s=gp:=by simpa[iF,Value.ownBlock,eq_comm] using q
   have hn:=h.de.nd
   simp at hs
   rcases hs with r|r
   ·exact(aZ.1 (aZ.1 hn).2).1 (by rw[←r,hq];simp[iF,Value.ownBlock])
   ·exact(aZ.1 hn).1 (ak _ (by rw[←r,hq];simp[iF,Value.ownBlock])))
  rw[hN] at hd
  refine⟨rfl,X,⟨_,_,_,_,_,h.xX k (p':=(.slice (some ⟨og,off,none⟩) m cap,.slice q3 0 cap3)) (h':=(l,[])) (U':=U.take P0.length) (P':=P0) hkl ro1 o2' kk hg hd hrow' (by rw[aQ];omega) (fun i z mm hi hm'=> ?_) rfl,hF.out⟩,kk.mono (fun s q=>by
   simp at q
   rcases q with rfl|rfl
   ·exact h.G9 hF.out h.jm
   ·exact h.G9 hF.out h.mU),fun _ q=>.inl q,fun _ q=>q⟩
  have hil:=(aj.1 hm').1
  rw[eY,if_pos hil] at hi
  exact h.de.po i z mm hi (by rw[hP,bE hil];exact hm')
 have HLG:=ah (vH h1.de.hs hp (.slice (some ⟨og,off,none⟩) (m+1) cap))
 have HLP:=ah (h1.de.d.store 2 (.slice (some ⟨gp,0,none⟩) N kp) sI)
 have h1dd:=ah h1.de.d
 have HB1:=ah b1
 have rl:w.heap.size<W1.heap.size:=om
 clear h h1 hI hk hp o1 o2 o1' o2' ro1 e3 hm ld et b1 s1 hp' f1 ruu huu hP pN hN hUl t0 t1 ogl ogx vl
 go_enter Tryz.func37,gZ
 go_wp2_with fail
 rw[←hW1]
 clear hW1
 refine HD.out.mono ?_
 rintro r' w1 ⟨rfl,rfl⟩
 clear HD
 go_wp2_with fail
 go_region
 obtain rfl:m=3:=om
 obtain⟨w2,hw2'⟩: ∃w2,w2=((w1.setCell ⟨gh,k*2,none⟩ (.slice (some ⟨og,off,none⟩) 4 cap)).setCell ⟨pd,2,none⟩ (.slice (some ⟨gp,0,none⟩) N kp)).drew:=⟨_,rfl⟩
 rw[←hw2']
 have K2:Keep [gh,pd] w1 w2:=by rw[hw2'];exact(((Keep.refl _ _).setCell (p:=⟨gh,k*2,none⟩) (.inl sI) _).setCell (p:=⟨pd,2,none⟩) (.inl sI) _).drew
 have LG2:iy w2 gh (iX (V.set k (.slice (some ⟨og,off,none⟩) 4 cap,.slice q3 0 cap3))):=by rw[hw2'];exact(HLG.out.far PG 2 _).jF
 have LP2:iy w2 pd [.pointer (some ⟨pc,0,none⟩),.slice (some ⟨gh,0,none⟩) d.H.length d.H.length,.slice (some ⟨gp,0,none⟩) N kp]:=by
  rw[hw2']
  have q:=(h1dd.out.far GP (k*2) (.slice (some ⟨og,off,none⟩) 4 cap)).store 2 (.slice (some ⟨gp,0,none⟩) N kp) sI
  exact q.jF
 have g0':=LG2.c (k*2) _ (jX (sJ VL.out _)).1
 have f0':=LG2.f (k*2) (by rw[iR,bM];have:=VL.out;omega)
 have gl':=LG2.lt
 have t0:=(K2.cell (o:=off+3*2) ogl' (by simpa using⟨GO.out,PO.out⟩)).trans t0'
 have t1:=(K2.cell (o:=off+3*2+1) ogl' (by simpa using⟨GO.out,PO.out⟩)).trans t1'
 have ogl:=aF ogl' K2.size
 have LL2:=L1.out.keep K2 (by simpa using⟨rg,rp⟩)
 have v0':=LL2.c 0 _ rfl;have v1':=LL2.c 1 _ rfl;have vf0':=LL2.f 0 sI;have vf1':=LL2.f 1 sI;have rl':=LL2.lt
 have KW2:=ah ((Keep.of (S:=[gh,pd]) HB1.out).then K2)
 have HL3:=ah (vH LG2 (sJ VL.out _) (.slice (some ⟨og,off,none⟩) 3 cap))
 rw[zH] at HL3
 have HP3:=ah LP2
 have HLL2:=ah LL2
 have HFIN':=rQ
 clear g0 g1 f0 t0' t1' ogl' c0 c1 c2 cl cf rl gl hw2' K2 LG2 LP2 LL2 hru kp1 gpl HLG HLP h1dd
 go_wp2
 have M:=ah ((((HLL2.out.far (c:=gh) gr (k*2) (.slice (some ⟨og,off,none⟩) 3 cap)).jC (.int .i64 o.1) (.int .i64 o.2))).past (.cells #[.int .i64 o.1,.int .i64 o.2] 49))
 have x0:=M.out.c 0 _ rfl;have x1:=M.out.c 1 _ rfl
 refine bodyPost_ret (v:=.tuple #[.agg #[.int .i64 o.1,.int .i64 o.2],.nilIface]) (by simp[x0,x1,results,gG,go_sem]) rfl (rQ.out _ ?_ ?_ ?_)
 ·exact(((((KW2.out).setCell (p:=⟨gh,k*2,none⟩) (.inl sI) _).setCell (p:=⟨w.heap.size,0,none⟩) (.inr (aI _)) _).setCell (p:=⟨w.heap.size,1,none⟩) (.inr (aI _)) _).alloc _)
 ·exact((HL3.out.far rg 0 _).far rg 1 _).past _
 ·exact(((HP3.out.far GP (k*2) _).far rp 0 _).far rp 1 _).past _
theorem dtake_D (k:Nat) (n:Int) (u:Bool) (hE:qM B ev w) (h:CD B w X pd pc pz gh mn lw hi O e v A V vp U d) (hF:Hid (∀f∈F,f∈X∧f∉xd pc v A d.c.L pd gh vp)) (hI:jY e d) (hk:d.H[k]?=some ([],[])) (hP:d.P=[]):
 Calls Tryz.prog 37 #[.pointer (some ⟨pd,0,none⟩),.int .i64 k,.int .i64 n,.bool u] w (mV B ev pd pc pz gh mn lw hi O e X F w (takeD mn O e d k n u)):=by
 have hkl:=(aj.1 hk).1
 have ld:je ([],[]) d.P=(([],[]),[]):=by unfold je;rw[if_pos rfl,if_pos rfl,hP];simp
 have et:takeD mn O e d k n u=(⟨(takeC mn O e d.c n u).1,d.H,d.P⟩,(takeC mn O e d.c n u).2.1,(takeC mn O e d.c n u).2.2):=jW (jo hk) (by rw[ld];simp)
 rw[et]
 have b1:Below w.heap.size w (w.alloc (.cells #[.int .i64 0,.int .i64 0] 49)):=iB
 have L1:=ah (show iy (w.alloc (.cells #[.int .i64 0,.int .i64 0] 49)) w.heap.size [.int .i64 0,.int .i64 0] from iy.mk_ w [.int .i64 0,.int .i64 0] 49 rfl)
 obtain⟨W1,hW1⟩: ∃W1,W1=w.alloc (.cells #[.int .i64 0,.int .i64 0] 49):=⟨_,rfl⟩
 have h1:=h.below b1
 rw[←hW1] at b1 L1 h1
 obtain⟨p,hp,o1,o2,g0,g1,f0,f1,gl⟩:=h1.hand hk
 obtain⟨⟨pa,pb⟩,rfl⟩: ∃q,q=p:=⟨_,rfl⟩
 obtain⟨q2,cap2,e2,_,_⟩:=o1.isSlice
 obtain⟨q3,cap3,e1,_,_⟩:=o2.isSlice
 simp only at e1 e2 g0 g1 hp
 subst e1 e2
 rw[show([]:List Ob).length=0 from rfl] at g0 g1 hp
 obtain⟨qp,kp,rfl⟩: ∃qp kp,vp= .slice qp 0 kp:=by
  have hr:=h1.de.row
  rw[hP] at hr
  rcases hr.2 with⟨a1,a2⟩|⟨_,cap',_,a1,_⟩
  ·exact⟨none,0,by rw[a1]⟩
  ·exact⟨_,cap',by rw[a1];rfl⟩
 have c0:=h1.de.d.c 0 _ rfl;have c1:=h1.de.d.c 1 _ rfl;have c2:=h1.de.d.c 2 _ rfl;have cl:=h1.de.d.lt
 have HD:=ah (lW h1 k hkl)
 have hw1:IntKind.i64.wrap ((0:Int)-1)=(0:Int)-1:=aP _ om
 have ST:=FQ n u (hE.go b1) ((h.cs.more (Y:=w.heap.size::X) (fun x hx=>ak _ hx) (fun y hy=>by
  rcases aC.1 hy with rfl|q
  ·exact .inr (aI _)
  ·exact .inl q)).below b1) hI.c
 have SM:=ah (wQ mn O e d.c n u)
 obtain⟨⟨c',cc,x1,x2⟩,hr⟩: ∃r,r=takeC mn O e d.c n u:=⟨_,rfl⟩
 rw[←hr] at ST SM ⊢
 unfold qK at ST
 simp only[obV] at ST ⊢
 have HST:=ah ST
 have NX:Hid (w.heap.size∉cay pc v A++ys d.c.L):=fun q=>by
  rcases aG.1 q with r|r
  ·have:=(h.cs.ch.lim _ r).2;omega
  ·have:=(h.cs.z.b.lim _ r).2;omega
 have rQ:Hid (∀w2 W,(∃X' v' A',CS B w2 pc pz mn lw hi O e X' v' A' c'∧Keep (cay pc v A++ys d.c.L) W1 w2∧(∀x∈w.heap.size::X,x∈X')∧(∀x∈X',x∈w.heap.size::X∨W1.heap.size≤x)∧∀y∈cay pc v' A',y∈cay pc v A∨W1.heap.size≤y)→Keep [w.heap.size] w2 W→iy W1 w.heap.size [.int .i64 0,.int .i64 0]→
  mV B ev pd pc pz gh mn lw hi O e X F w (⟨c',d.H,d.P⟩,cc,(x1,x2)) (.returned (.tuple #[.agg #[.int .i64 x1,.int .i64 x2],jB ev cc])) W):=fun w2 W ⟨X',v',A',y1,y2,y3,y4,y5⟩ kk hloc=>by
  have zl:w.heap.size<W1.heap.size:=hloc.lt
  have z2:=y2.size
  have nc:w.heap.size∉cay pc v' A':=fun q=>by
   rcases y5 _ q with r|r
   ·exact NX.out (av _ r)
   ·omega
  have ny:w.heap.size∉ys c'.L:=by
   rw[SM.out.ys];exact fun q=>NX.out (aA _ q)
  have kAll:Keep (cay pc v A++ys d.c.L) w W:=((Keep.of (S:=cay pc v A++ys d.c.L) b1).then y2).trans kk (fun s q=>by simp at q;subst q;exact .inr (aI _))
  have csw:CS B W pc pz mn lw hi O e X' v' A' c':=y1.keep kk (fun s q=>by simp at q;subst q;exact⟨nc,.inl ⟨y3 _ (aD ..),ny⟩⟩)
  obtain⟨q1,q2⟩:=h.cache csw kAll (fun x hx=>y3 x (ak _ hx)) (fun x hx=>by
   rcases y4 x hx with r|r
   ·rcases aC.1 r with t|t
    ·exact .inr om
    ·exact .inl t
   ·exact .inr om) (fun y hy=>(y5 y hy).imp id (fun t=>om)) SM.out
  refine⟨rfl,_,⟨_,_,_,_,_,q1,h.cacheF (fun y hy=>(y5 y hy).imp id (fun t=>om)) SM.out hF.out (fun x hx=>av _ hx)⟩,kAll.mono (fun s q=>h.offd hF.out (aA _ q)),q2,fun x hx=>av _ hx⟩
 have HB1:=ah b1
 clear h h1 hI hk hp o1 o2 ld et b1 hr hE ST hP f0 f1
 go_enter Tryz.func37,gZ
 go_wp2_with fail
 rw[←hW1]
 clear hW1
 refine HD.out.mono ?_
 rintro r' w1 ⟨rfl,rfl⟩
 clear HD
 go_wp2_with fail
 refine HST.out.mono ?_
 rintro r' w2 ⟨rfl,hex⟩
 have LL2:=ah (show iy w2 w.heap.size [.int .i64 0,.int .i64 0] from by
  obtain⟨_,_,_,_,k2,_⟩:=hex
  exact L1.out.keep k2 NX.out)
 have v0':=LL2.out.c 0 _ rfl;have v1':=LL2.out.c 1 _ rfl;have vf0':=LL2.out.f 0 sI;have vf1':=LL2.out.f 1 sI;have rl':=LL2.out.lt
 have HEX:=ah hex
 clear hex HST
 go_wp2
 have M:=ah (LL2.out.jC (.int .i64 x1) (.int .i64 x2))
 have y0:=M.out.c 0 _ rfl;have y1:=M.out.c 1 _ rfl
 refine bodyPost_ret (v:=.tuple #[.agg #[.int .i64 x1,.int .i64 x2],jB ev cc]) (by simp[y0,y1,results,gG,go_sem]) rfl (rQ.out w2 _ HEX.out ?_ L1.out)
 exact((Keep.refl _ _).setCell (p:=⟨w.heap.size,0,none⟩) (.inl sI) _).setCell (p:=⟨w.heap.size,1,none⟩) (.inl sI) _
theorem Gc (k n:Int) (u:Bool) (hE:qM B ev w) (h:CD B w X pd pc pz gh mn lw hi O e v A V vp U d) (hF:Hid (∀f∈F,f∈X∧f∉xd pc v A d.c.L pd gh vp)) (hI:jY e d):
 Calls Tryz.prog 37 #[.pointer (some ⟨pd,0,none⟩),.int .i64 k,.int .i64 n,.bool u] w (mV B ev pd pc pz gh mn lw hi O e X F w (takeD mn O e d k n u)):=by
 cases hh:jI d k with
 |none=>exact Gb k n u hE h hF hh
 |some g=>
  obtain⟨k0,h1,h2,h3⟩:=jP hh
  obtain⟨kn,hkn⟩: ∃kn,kn=k.toNat:=⟨_,rfl⟩
  rw[←hkn] at h1 h3
  subst h3
  obtain⟨g1,g2⟩:=g
  rcases dD g1 with rfl|⟨l,o,rfl⟩
  ·rcases dD g2 with rfl|⟨l,o,rfl⟩
   ·rcases dD d.P with hP|⟨P0,m,hP⟩
    ·exact dtake_D kn n u hE h hF hI h1 hP
    ·have hm:=hI.p4 m (by rw[hP];simp)
     rcases dD m with rfl|⟨l,o,rfl⟩
     ·simp at hm
     ·exact dtake_C kn n u h hF hI h1 (by simpa using hP)
   ·exact dtake_B kn n u h hF hI (by simpa using h1)
  ·exact dtake_A kn n u h hF hI (by simpa using h1)
end
end
section
open Go.RowKit Go.Maps
attribute [local go_sem ↓] aW aX
section
variable {X:List Nat} {w:World} {v:Value} {l:List Ob}
theorem Cg (o:Ob): ∀l:List Ob,(o∉l)∨∃m,l[m]?=some o∧∀(j:Nat) (y:Ob),j<m→l[j]?=some y→y≠o
 |[]=>.inl sI
 |a::l=>by
  by_cases h:a=o
  ·exact .inr ⟨0,by simp[h],fun j y hj=>om⟩
  ·rcases Cg o l with q|⟨m,q1,q2⟩
   ·exact .inl (by simp;exact⟨fun r=>h r.symm,q⟩)
   ·refine .inr ⟨m+1,by simpa using q1,fun j y hj hy=> ?_⟩
    cases j with
    |zero=>simp at hy;subst hy;exact h
    |succ j=>exact q2 j y om (by simpa using hy)
theorem Ch (o:Ob) (h:j5 X w v l) (hl:l.length≤65536) (m:Nat) (hm:m≤l.length) (hno: ∀(j:Nat) (y:Ob),j<m→l[j]?=some y→y≠o) (res:Int) (hres:(m=l.length∧res= -1)∨(l[m]?=some o∧res=m)):
 Calls Tryz.prog 278 #[v,.agg #[.int .i64 o.1,.int .i64 o.2]] w fun r w'=>r= .returned (.int .i64 res)∧Below w.heap.size w w':=by
 obtain⟨p,cap,rfl,hc1,hc2,_⟩:=id h
 have b0:Below w.heap.size w (w.alloc (.cells #[.int .i64 o.1,.int .i64 o.2] 49)):=iB
 have HL:=ah (show iy (w.alloc (.cells #[.int .i64 o.1,.int .i64 o.2] 49)) w.heap.size [.int .i64 o.1,.int .i64 o.2] from iy.mk_ w [.int .i64 o.1,.int .i64 o.2] 49 rfl)
 have H:=ah h;have FD:=ah hno;have zm:=ah hres
 obtain⟨n,hn⟩: ∃n,n=l.length:=⟨_,rfl⟩
 have EN:=ah hn
 rw[←hn] at hl hm ⊢
 have eb:=eqO;have gb:=vg
 clear h hno hres hn hc1 hc2
 go_enter Tryz.func278,Tryz.ntmps278
 go_wp2_with fail
 go_loopw [5,8] (fun _ iv wr=>∃i:Nat,i≤m∧iv= .int .i64 i∧Below w.heap.size (w.alloc (.cells #[.int .i64 o.1,.int .i64 o.2] 49)) wr∧Below w.heap.size w wr∧Hid (iy wr w.heap.size [.int .i64 o.1,.int .i64 o.2])) (fun _ iv _=>n-(intOf iv).toNat)
 case atStart=>exact⟨0,om,by go_num,aJ _ _,b0,HL⟩
 case round=>
  obtain⟨i,hile,rfl,hbel0,hbel,HLr⟩:=hrel
  have BW:Hid (∀W,Below wr.heap.size wr W→Below w.heap.size (w.alloc (.cells #[.int .i64 o.1,.int .i64 o.2] 49)) W∧Below w.heap.size w W∧Hid (iy W w.heap.size [.int .i64 o.1,.int .i64 o.2])):=fun W b=>⟨hbel0.trans (b.mono hbel.size),hbel.trans (b.mono hbel.size),HLr.out.go b⟩
  have m0:=HLr.out.c 0 _ rfl;have m1:=HLr.out.c 1 _ rfl;have ml:=HLr.out.lt
  by_cases hin:i<n
  ·obtain⟨y,hy⟩: ∃y,l[i]?=some y:=⟨l[i]'(by rw[←EN.out];exact hin),au _⟩
   obtain⟨g,off,rfl,_,gl,c0,c1⟩:=((show j5 X w (.slice p n cap) l by rw[EN.out];exact H.out).below hbel).at hy
   have j1:(i:Int)<(n:Int):=om
   by_cases e1:y=o
   ·have hm':i=m:=by
     rcases dH i m with q|q
     ·exact absurd e1 (FD.out i y q hy)
     ·omega
    have hr:res=(i:Int):=by
     rcases zm.out with⟨q1,_⟩|⟨_,q2⟩
     ·have:=EN.out;omega
     ·rw[q2,hm']
    subst e1 hr
    clear hy hm'
    go_wp2_with fail
    go_quiet (fail)
    go_wp2
    go_ret
    exact⟨rfl,(BW.out _ iB).2.1⟩
   ·have HNX:Hid (i+1≤m):=by
     rcases dH i m with q|q
     ·exact q
     ·exfalso
      have q':i=m:=om
      rcases zm.out with⟨q1,_⟩|⟨q2,_⟩
      ·have:=EN.out;omega
      ·rw[←q',hy] at q2;exact e1 (aH q2)
    have hb:(o.1==y.1&&o.2==y.2)=false:=by
     cases q:(o.1==y.1&&o.2==y.2) with
     |false=>rfl
     |true=>
      simp at q
      exact absurd (Prod.ext q.1.symm q.2.symm) e1
    clear hy e1
    go_wp2_with fail
    go_quiet (fail)
    go_wp2
    go_round
    case rel=>exact⟨i+1,HNX.out,by go_num,BW.out _ iB⟩
    case measure=>simp[intOf];omega
  ·have hr:res= -1:=by
    rcases zm.out with⟨_,q⟩|⟨q,_⟩
    ·exact q
    ·have:=(aj.1 q).1
     have:=EN.out;omega
   subst hr
   go_wp2
   go_ret
   exact⟨rfl,(BW.out _ (aJ _ _)).2.1⟩
theorem Gd (o:Ob) (h:j5 X w v l) (hl:l.length≤65536):
 Calls Tryz.prog 263 #[v,.agg #[.int .i64 o.1,.int .i64 o.2]] w fun r w'=>r= .returned (.bool (decide (o∈l)))∧Below w.heap.size w w':=by
 have b0:Below w.heap.size w (w.alloc (.cells #[.int .i64 o.1,.int .i64 o.2] 49)):=iB
 have HB:=ah b0
 rcases Cg o l with q|⟨m,q1,q2⟩
 ·have IX:=ah (Ch o (h.below b0) hl l.length (aI _) (fun j y _ hy e=>q (e▸aB hy)) (-1) (.inl ⟨rfl,rfl⟩))
  have d:decide (o∈l)=false:=decide_eq_false q
  rw[d]
  clear h d q b0
  go_enter Tryz.func263,Tryz.ntmps263
  go_wp2_with fail
  refine IX.out.mono ?_
  rintro r w1 ⟨rfl,hb1⟩
  go_wp2
  go_ret
  exact⟨rfl,HB.out.trans (hb1.mono sI)⟩
 ·have IX:=ah (Ch o (h.below b0) hl m (gV (aj.1 q1).1) q2 m (.inr ⟨q1,rfl⟩))
  have d:decide (o∈l)=true:=decide_eq_true (aB q1)
  have dm:decide ((0:Int)≤(m:Int))=true:=decide_eq_true om
  rw[d]
  clear h d q1 q2 b0
  go_enter Tryz.func263,Tryz.ntmps263
  go_wp2_with fail
  refine IX.out.mono ?_
  rintro r w1 ⟨rfl,hb1⟩
  go_wp2
  go_ret
  exact⟨rfl,HB.out.trans (hb1.mono sI)⟩
def liesF (b:Nat):Value:=.func (.func 265) #[] #[.pointer (some ⟨b,0,none⟩)]
theorem Gf (o:Ob) (b:Nat) (h:j5 X w v l) (hl:l.length≤65536) (hb:iy w b [.int .i64 o.1,.int .i64 o.2]):
 Calls Tryz.prog 265 #[v,.pointer (some ⟨b,0,none⟩)] w fun r w'=>r= .returned (.bool (decide (o∈l)))∧Below w.heap.size w w':=by
 have HH:=ah (Gd o h hl)
 have c0:=hb.c 0 _ rfl;have c1:=hb.c 1 _ rfl;have cl:=hb.lt
 obtain⟨bb,hbb⟩: ∃bb,bb=decide (o∈l):=⟨_,rfl⟩
 rw[←hbb] at HH ⊢
 clear h hbb
 go_enter Tryz.func265,Tryz.ntmps265
 go_wp2_with fail
 refine HH.out.mono ?_
 rintro r w1 ⟨rfl,hb1⟩
 go_wp2
 go_ret
 exact⟨rfl,hb1⟩
end
theorem DepB.pile {X:List Nat} {B:Nat} {w:World} {pd pc gh:Nat} {V:HV} {vp:Value} {U:List Value} {H:List Hd} {P:List (List Ob)} (h:DepB X B w pd pc gh V vp U H P):
 ∃q k,vp= .slice q P.length k∧P.length≤k∧k≤maxLen∧∀(j:Nat) (m:List Ob),P[j]?=some m→∃g p c,q=some ⟨g,0,none⟩∧g<w.heap.size∧w.cell? ⟨g,j,none⟩=some (.slice p m.length c)∧j5 X w (.slice p m.length c) m:=by
 have ho:=h.row
 have hul:=h.ul
 rcases h.row.2 with⟨rfl,h3⟩|⟨g,cap,cur,rfl,hg,hh,hcap,hmax,_⟩
 ·refine⟨none,0,by rw[h3],om,by unfold maxLen;omega,fun j m hj=> ?_⟩
  have:=(aj.1 hj).1
  omega
 ·refine⟨some ⟨g,0,none⟩,cap,rfl,hcap,hmax,fun j m hj=> ?_⟩
  have hlt:=(aj.1 hj).1
  obtain⟨u,hu⟩: ∃u,U[j]?=some u:=⟨U[j]' om,au _⟩
  have r:=h.po j u m hu hj
  obtain⟨p,c,rfl,_,_⟩:=r.isSlice
  exact⟨g,p,c,rfl,(ho.lt g rfl).2,by rw[ho.cellAt j om];exact hu,r⟩
theorem zI (o:Ob): ∀P:List (List Ob),(∀m∈P,o∉m)∨∃(i:Nat) (m:List Ob),P[i]?=some m∧o∈m∧∀(j:Nat) (y:List Ob),j<i→P[j]?=some y→o∉y
 |[]=>.inl (fun m hm=>by cases hm)
 |a::P=>by
  by_cases h:o∈a
  ·exact .inr ⟨0,a,rfl,h,fun j y hj=>om⟩
  ·rcases zI o P with q|⟨i,m,q1,q2,q3⟩
   ·refine .inl fun m hm=> ?_
    rcases aC.1 hm with rfl|r
    ·exact h
    ·exact q m r
   ·refine .inr ⟨i+1,m,by simpa using q1,q2,fun j y hj hy=> ?_⟩
    cases j with
    |zero=>simp at hy;subst hy;exact h
    |succ j=>exact q3 j y om (by simpa using hy)
section
variable {X:List Nat} {w:World}
theorem zJ (o:Ob) (b:Nat) (q:Option Addr) (k:Nat) (P:List (List Ob)) (hp4: ∀m∈P,m.length=4) (hpl:P.length≤65536)
 (hrow: ∀(j:Nat) (m:List Ob),P[j]?=some m→∃g p c,q=some ⟨g,0,none⟩∧g<w.heap.size∧w.cell? ⟨g,j,none⟩=some (.slice p m.length c)∧j5 X w (.slice p m.length c) m) (hb:iy w b [.int .i64 o.1,.int .i64 o.2])
 (i0:Nat) (hm:i0≤P.length) (hno: ∀(j:Nat) (y:List Ob),j<i0→P[j]?=some y→o∉y) (res:Int) (hres:(i0=P.length∧res= -1)∨((∃m,P[i0]?=some m∧o∈m)∧res=i0)):
 Calls Tryz.prog 279 #[.slice q P.length k,liesF b] w fun r w'=>r= .returned (.int .i64 res)∧Below w.heap.size w w':=by
 have rR:=ah hrow;have FD:=ah hno;have zm:=ah hres;have HB:=ah hb;have HP4:=ah hp4
 obtain⟨n,hn⟩: ∃n,n=P.length:=⟨_,rfl⟩
 have EN:=ah hn
 rw[←hn] at hpl hm ⊢
 unfold liesF
 clear hrow hno hres hn hb hp4
 go_enter Tryz.func279,Tryz.ntmps279
 go_wp2_with fail
 go_loopw [5,8] (fun _ iv wr=>∃i:Nat,i≤i0∧iv= .int .i64 i∧Below w.heap.size w wr) (fun _ iv _=>n-(intOf iv).toNat)
 case atStart=>exact⟨0,om,by go_num,aJ _ _⟩
 case round=>
  obtain⟨i,hile,rfl,hbel⟩:=hrel
  have zr:=hbel.size
  by_cases hin:i<n
  ·obtain⟨y,hy⟩: ∃y,P[i]?=some y:=⟨P[i]'(by rw[←EN.out];exact hin),au _⟩
   obtain⟨g,p,c,rfl,gl,c0,ro⟩:=rR.out i y hy
   have c0':=(hbel.cell (p:=⟨g,i,none⟩) gl).trans c0
   have gl':g<wr.heap.size:=om
   have j1:(i:Int)<(n:Int):=om
   have y4:=HP4.out y (aB hy)
   have LI:=ah (Gf o b (ro.below hbel) om (HB.out.go hbel))
   rw[y4] at c0' LI
   by_cases e1:o∈y
   ·have d:decide (o∈y)=true:=decide_eq_true e1
    have hm':i=i0:=by
     rcases dH i i0 with q|q
     ·exact absurd e1 (FD.out i y q hy)
     ·omega
    have hr:res=(i:Int):=by
     rcases zm.out with⟨q1,_⟩|⟨_,q2⟩
     ·have:=EN.out;omega
     ·rw[q2,hm']
    rw[d] at LI
    subst hr
    clear hy hm' c0 ro d e1
    go_wp2_with fail
    refine LI.out.mono ?_
    rintro r w1 ⟨rfl,hb1⟩
    go_wp2
    go_ret
    exact⟨rfl,hbel.trans (hb1.mono zr)⟩
   ·have d:decide (o∈y)=false:=decide_eq_false e1
    have HNX:Hid (i+1≤i0):=by
     rcases dH i i0 with q|q
     ·exact q
     ·exfalso
      have q':i=i0:=om
      rcases zm.out with⟨q1,_⟩|⟨⟨m,q2,q3⟩,_⟩
      ·have:=EN.out;omega
      ·rw[←q',hy] at q2;exact e1 (by rw[aH q2];exact q3)
    rw[d] at LI
    clear hy c0 ro d e1
    go_wp2_with fail
    refine LI.out.mono ?_
    rintro r w1 ⟨rfl,hb1⟩
    go_wp2
    go_round
    case rel=>exact⟨i+1,HNX.out,by go_num,hbel.trans (hb1.mono zr)⟩
    case measure=>simp[intOf];omega
  ·have hr:res= -1:=by
    rcases zm.out with⟨_,q⟩|⟨⟨m,q,_⟩,_⟩
    ·exact q
    ·have:=(aj.1 q).1
     have:=EN.out;omega
   subst hr
   go_wp2
   go_ret
   exact⟨rfl,hbel⟩
theorem zK (o:Ob) (b:Nat) (q:Option Addr) (k:Nat) (P:List (List Ob)) (hp4: ∀m∈P,m.length=4) (hpl:P.length≤65536)
 (hrow: ∀(j:Nat) (m:List Ob),P[j]?=some m→∃g p c,q=some ⟨g,0,none⟩∧g<w.heap.size∧w.cell? ⟨g,j,none⟩=some (.slice p m.length c)∧j5 X w (.slice p m.length c) m) (hb:iy w b [.int .i64 o.1,.int .i64 o.2]):
 Calls Tryz.prog 264 #[.slice q P.length k,liesF b] w fun r w'=>r= .returned (.bool (decide (o∈P.flatten)))∧Below w.heap.size w w':=by
 rcases zI o P with h|⟨i,m,h1,h2,h3⟩
 ·have IX:=ah (zJ (X:=X) o b q k P hp4 hpl hrow hb P.length (aI _) (fun j y _ hy=>h y (aB hy)) (-1) (.inl ⟨rfl,rfl⟩))
  have d:decide (o∈P.flatten)=false:=decide_eq_false (fun r=>by
   obtain⟨m,r1,r2⟩:=List.mem_flatten.1 r
   exact h m r1 r2)
  rw[d]
  clear hrow hb h d hp4
  obtain⟨n,hn⟩: ∃n,n=P.length:=⟨_,rfl⟩
  rw[←hn] at IX ⊢
  clear hn
  go_enter Tryz.func264,Tryz.ntmps264
  go_wp2_with fail
  refine IX.out.mono ?_
  rintro r w1 ⟨rfl,hb1⟩
  go_wp2
  go_ret
  exact⟨rfl,hb1⟩
 ·have IX:=ah (zJ (X:=X) o b q k P hp4 hpl hrow hb i (gV (aj.1 h1).1) h3 i (.inr ⟨⟨m,h1,h2⟩,rfl⟩))
  have d:decide (o∈P.flatten)=true:=decide_eq_true (List.mem_flatten.2 ⟨m,aB h1,h2⟩)
  have dm:decide ((0:Int)≤(i:Int))=true:=decide_eq_true om
  rw[d]
  clear hrow hb h1 h2 h3 d hp4
  obtain⟨n,hn⟩: ∃n,n=P.length:=⟨_,rfl⟩
  rw[←hn] at IX ⊢
  clear hn
  go_enter Tryz.func264,Tryz.ntmps264
  go_wp2_with fail
  refine IX.out.mono ?_
  rintro r w1 ⟨rfl,hb1⟩
  go_wp2
  go_ret
  exact⟨rfl,hb1⟩
end
end
section
open Go.RowKit Go.Maps
attribute [local go_sem ↓] aW aX
section
variable {X Y S:List Nat} {B:Nat} {ev:Nat→Addr} {w w':World} {pd pc pz gh e:Nat} {mn lw hi:Int} {O:List (List Int)} {v vp:Value} {A:SA} {V:HV} {U:List Value} {d:De} {c:Ca}
theorem Gg (h:l8 e c) (o:Ob):(qH e o c.C).isSome=decide (o∈jQ e c.C):=by
 cases hf:qH e o c.C with
 |none=>
  symm
  show decide _=false
  refine decide_eq_false fun hx=> ?_
  obtain⟨i,s,k,hs,hk,rfl⟩:=pO.1 hx
  have h1:=pW hf s (aB hs)
  have h2:sW e (mg e s k) s=true:=(nC h.e1).2 ⟨by rw[ou h.e1 rfl];exact hk,by rw[ou h.e1 rfl]⟩
  rw[h1] at h2;cases h2
 |some i=>
  obtain⟨s,hs,hh,_⟩:=mh hf
  obtain⟨k1,k2⟩:=(nC h.e1).1 hh
  symm
  show decide _=true
  exact decide_eq_true (pO.2 ⟨i,s,_,hs,k1,k2⟩)
theorem shas_ok (o:Ob) (h:CS B w pc pz mn lw hi O e X v A c) (hI:l8 e c) (o1: -9223372036854775808≤o.2) (o2:o.2≤9223372036854775807):
 Calls Tryz.prog 230 #[.pointer (some ⟨pc,0,none⟩),.agg #[.int .i64 o.1,.int .i64 o.2]] w fun r w'=>r= .returned (.bool (decide (o∈jQ e c.C)))∧Below w.heap.size w w':=by
 have b0:Below w.heap.size w (w.alloc (.cells #[.int .i64 o.1,.int .i64 o.2] 49)):=iB
 have HB:=ah b0
 have fm:=Gg hI o
 cases hf:qH e o c.C with
 |none=>
  rw[hf] at fm
  rw[←fm]
  have FN:=ah (FE o.1 o.2 (h.below b0) hI o1 o2 hf)
  clear h hI fm hf b0
  go_enter Tryz.func230,Tryz.ntmps230
  go_wp2_with fail
  refine FN.out.mono ?_
  rintro r w1 ⟨rfl,hb1⟩
  go_wp2
  go_ret
  exact⟨rfl,HB.out.trans (hb1.mono sI)⟩
 |some i=>
  rw[hf] at fm
  rw[←fm]
  obtain⟨s,hs,_,_⟩:=mh hf
  obtain⟨p,hp,_,_⟩:=h.ch.at hs
  have FN:=ah (zo o.1 o.2 (h.below b0) hI o1 o2 hf hs hp)
  obtain⟨kk,hkk⟩: ∃kk,kk=kOf e (o.1,o.2) s:=⟨_,rfl⟩
  rw[←hkk] at FN
  clear h hI fm hf b0 hs hp hkk
  go_enter Tryz.func230,Tryz.ntmps230
  go_wp2_with fail
  refine FN.out.mono ?_
  rintro r w1 ⟨rfl,hb1⟩
  go_wp2
  go_ret
  exact⟨rfl,HB.out.trans (hb1.mono sI)⟩
theorem vI {H:List Hd} {o:Ob}:o∈jf H↔∃(i:Nat) (h:Hd),H[i]?=some h∧(o∈h.1∨o∈h.2):=by
 unfold jf
 rw[eH]
 constructor
 ·rintro⟨h,hh,q⟩
  obtain⟨i,hi⟩:=List.mem_iff_getElem?.1 hh
  exact⟨i,h,hi,aG.1 q⟩
 ·rintro⟨i,h,hi,q⟩
  exact⟨h,aB hi,aG.2 q⟩
theorem dlies_ok (o:Ob) (h:CD B w X pd pc pz gh mn lw hi O e v A V vp U d) (hI:jY e d):
 Calls Tryz.prog 231 #[.pointer (some ⟨pd,0,none⟩),.agg #[.int .i64 o.1,.int .i64 o.2]] w fun r w'=>r= .returned (.bool (decide (o∈held d)))∧Below w.heap.size w w':=by
 have b0:Below w.heap.size w (w.alloc (.cells #[.int .i64 o.1,.int .i64 o.2] 49)):=iB
 have HL:=ah (show iy (w.alloc (.cells #[.int .i64 o.1,.int .i64 o.2] 49)) w.heap.size [.int .i64 o.1,.int .i64 o.2] from iy.mk_ w [.int .i64 o.1,.int .i64 o.2] 49 rfl)
 have HH:=ah h;have HI:=ah hI;have HB0:=ah b0
 have c1:=h.de.d.c 1 _ rfl;have cl:=h.de.d.lt
 have hH4:=hI.hl
 obtain⟨n,hn⟩: ∃n,n=d.H.length:=⟨_,rfl⟩
 have EN:=ah hn
 rw[←hn] at c1 hH4
 obtain⟨bb,hbb⟩: ∃bb,bb=decide (o∈held d):=⟨_,rfl⟩
 have HBB:=ah hbb
 rw[←hbb]
 clear h hI hn b0 hbb
 go_enter Tryz.func231,Tryz.ntmps231
 go_wp2_with fail
 go_loopw [12] (fun iv wr=>∃i:Nat,i≤n∧iv= .int .i64 i∧Below w.heap.size w wr∧Hid (iy wr w.heap.size [.int .i64 o.1,.int .i64 o.2])∧Hid (∀(j:Nat) (h:Hd),j<i→d.H[j]?=some h→o∉h.1∧o∉h.2)) (fun iv _=>n-(intOf iv).toNat)
 case atStart=>exact⟨0,om,by go_num,HB0.out,HL,fun j h hj=>om⟩
 case round=>
  obtain⟨i,hile,rfl,hbel,HLr,HNO⟩:=hrel
  have m0:=HLr.out.c 0 _ rfl;have m1:=HLr.out.c 1 _ rfl;have ml:=HLr.out.lt
  have zr:=hbel.size
  by_cases hin:i<n
  ·obtain⟨g,hg⟩: ∃g,d.H[i]?=some g:=⟨d.H[i]'(by rw[←EN.out];exact hin),au _⟩
   obtain⟨⟨pa,pb⟩,hp,r1,r2,g0,g1,_,_,gl⟩:=(HH.out.below hbel).hand hg
   obtain⟨qa,ca,e1,_⟩:=r1.isSlice
   obtain⟨qb,cb,e2,_⟩:=r2.isSlice
   simp only at e1 e2 g0 g1
   subst e1 e2
   have l4:=HI.out.h4 g (aB hg)
   have j1:(i:Int)<(n:Int):=om
   have bA:Below wr.heap.size wr (wr.alloc (.cells #[.slice qa g.1.length ca,.slice qb g.2.length cb] 249)):=iB
   have LA:=ah (show iy (wr.alloc (.cells #[.slice qa g.1.length ca,.slice qb g.2.length cb] 249)) wr.heap.size [.slice qa g.1.length ca,.slice qb g.2.length cb] from iy.mk_ wr [.slice qa g.1.length ca,.slice qb g.2.length cb] 249 rfl)
   have C1:=ah (Gd o (r1.below bA) om)
   have R2:=ah r2;have BA:=ah bA;have HG:=ah hg
   have L42:Hid (g.2.length≤65536):=by show g.2.length≤65536;omega
   obtain⟨b1,hb1'⟩: ∃b1,b1=decide (o∈g.1):=⟨_,rfl⟩
   have HB1':=ah hb1'
   try simp only at C1
   rw[←hb1'] at C1
   obtain⟨na,hna⟩: ∃na,na=g.1.length:=⟨_,rfl⟩
   obtain⟨nb,hnb⟩: ∃nb,nb=g.2.length:=⟨_,rfl⟩
   rw[←hna] at C1 g0 LA BA
   rw[←hnb] at C1 g1 LA R2 BA
   clear r1 r2 hp hg bA hb1' l4 hna hnb
   cases b1 with
   |true=>
    have hmem:o∈held d:=by
     unfold held
     exact av _ (vI.2 ⟨i,g,HG.out,.inl (of_decide_eq_true HB1'.out.symm)⟩)
    have hd:bb=true:=by rw[HBB.out];exact decide_eq_true hmem
    subst hd
    clear hmem
    go_wp2_with fail
    refine C1.out.mono ?_
    rintro r w2 ⟨rfl,hb2⟩
    go_wp2
    go_ret
    exact⟨rfl,hbel.trans ((BA.out.trans (hb2.mono sI)).mono zr)⟩
   |false=>
    go_wp2_with fail
    refine C1.out.mono ?_
    rintro r w2 ⟨rfl,hb2⟩
    have M2:=LA.out.go hb2
    have y0:=M2.c 0 _ rfl;have y1:=M2.c 1 _ rfl;have yl:=M2.lt
    have B2:=ah (BA.out.trans (hb2.mono sI))
    have HLr2:=ah (HLr.out.go B2.out)
    have m0:=HLr2.out.c 0 _ rfl;have m1:=HLr2.out.c 1 _ rfl;have ml:=HLr2.out.lt
    have C2:=Gd o (R2.out.below B2.out) (by have:=L42.out;simpa using this)
    obtain⟨b2,hb2'⟩: ∃b2,b2=decide (o∈g.2):=⟨_,rfl⟩
    have HB2':=ah hb2'
    try simp only at C2
    rw[←hb2'] at C2
    have HC2:=ah C2
    clear C1 M2 C2 hb2' hb2
    cases b2 with
    |true=>
     have hmem:o∈held d:=by
      unfold held
      exact av _ (vI.2 ⟨i,g,HG.out,.inr (of_decide_eq_true HB2'.out.symm)⟩)
     have hd:bb=true:=by rw[HBB.out];exact decide_eq_true hmem
     subst hd
     clear hmem
     go_wp2_with fail
     refine HC2.out.mono ?_
     rintro r w3 ⟨rfl,hb3⟩
     go_wp2
     go_ret
     exact⟨rfl,hbel.trans ((B2.out.trans (hb3.mono B2.out.size)).mono zr)⟩
    |false=>
     have HNO2:Hid (∀(j:Nat) (h:Hd),j<i+1→d.H[j]?=some h→o∉h.1∧o∉h.2):=fun j h hj hh=>by
      by_cases q:j=i
      ·subst q
       rw[HG.out] at hh
       obtain rfl:=aH hh
       exact⟨of_decide_eq_false HB1'.out.symm,of_decide_eq_false HB2'.out.symm⟩
      ·exact HNO.out j h om hh
     go_wp2_with fail
     refine HC2.out.mono ?_
     rintro r w3 ⟨rfl,hb3⟩
     have B3:=B2.out.trans (hb3.mono B2.out.size)
     have HL3:=ah (HLr.out.go B3)
     go_wp2
     go_round
     case rel=>exact⟨i+1,om,by go_num,hbel.trans (B3.mono zr),HL3,HNO2⟩
     case measure=>simp[intOf];omega
  ·obtain rfl:i=n:=by omega
   have hnm:o∉jf d.H:=fun q=>by
    obtain⟨j,g,h1,h2⟩:=vI.1 q
    have hj:=(aj.1 h1).1
    obtain⟨a1,a2⟩:=HNO.out j g (by rw[EN.out];exact hj) h1
    rcases h2 with r|r
    ·exact a1 r
    ·exact a2 r
   have hd:decide (o∈d.P.flatten)=bb:=by
    rw[HBB.out]
    unfold held
    simp[hnm]
   obtain⟨q,k,evp,k1,k2,hrow⟩:=(HH.out.below hbel).de.pile
   have c2:=(HH.out.below hbel).de.d.c 2 _ rfl;have cl2:=(HH.out.below hbel).de.d.lt
   rw[evp] at c2
   have pl:d.P.length≤65536:=by
    have hh:=(ji HI.out).1
    have h2:=jy HI.out.c
    omega
   have CF:=ah (zK (X:=X) o w.heap.size q k d.P HI.out.p4 pl hrow HLr.out)
   unfold liesF at CF
   rw[hd] at CF
   clear hnm hd hrow k1 k2 evp
   go_wp2_with fail
   refine CF.out.mono ?_
   rintro r w2 ⟨rfl,hb2⟩
   go_wp2
   go_ret
   exact⟨rfl,hbel.trans (hb2.mono zr)⟩
theorem xY (o:Ob) (h:CD B w X pd pc pz gh mn lw hi O e v A V vp U d) (hI:jY e d) (o1: -9223372036854775808≤o.2) (o2:o.2≤9223372036854775807):
 Calls Tryz.prog 148 #[.pointer (some ⟨pd,0,none⟩),.agg #[.int .i64 o.1,.int .i64 o.2]] w fun r w'=>r= .returned (.bool (vB e d o))∧Below w.heap.size w w':=by
 have b0:Below w.heap.size w (w.alloc (.cells #[.int .i64 o.1,.int .i64 o.2] 49)):=iB
 have HL:=ah (show iy (w.alloc (.cells #[.int .i64 o.1,.int .i64 o.2] 49)) w.heap.size [.int .i64 o.1,.int .i64 o.2] from iy.mk_ w [.int .i64 o.1,.int .i64 o.2] 49 rfl)
 have c0:=h.de.d.c 0 _ rfl;have cl:=h.de.d.lt
 have HB0:=ah b0
 obtain⟨W0,hW0⟩: ∃W0,W0=w.alloc (.cells #[.int .i64 o.1,.int .i64 o.2] 49):=⟨_,rfl⟩
 have h0:=h.below b0
 rw[←hW0] at HL h0 HB0
 have HA:Hid (∀W,Below W0.heap.size W0 W→Calls Tryz.prog 230 #[.pointer (some ⟨pc,0,none⟩),.agg #[.int .i64 o.1,.int .i64 o.2]] W fun r w'=>r= .returned (.bool (decide (o∈jQ e d.c.C)))∧Below W.heap.size W w'):=fun W b=>shas_ok o (h0.below b).cs hI.c o1 o2
 have LI:Hid (∀W,Below W0.heap.size W0 W→Calls Tryz.prog 231 #[.pointer (some ⟨pd,0,none⟩),.agg #[.int .i64 o.1,.int .i64 o.2]] W fun r w'=>r= .returned (.bool (decide (o∈held d)))∧Below W.heap.size W w'):=fun W b=>dlies_ok o (h0.below b) hI
 have k0:=h0.de.d.c 0 _ rfl;have kl:=h0.de.d.lt
 have m0:=HL.out.c 0 _ rfl;have m1:=HL.out.c 1 _ rfl;have ml:=HL.out.lt
 unfold vB
 obtain⟨b1,hb1⟩: ∃b1,b1=decide (o∈jQ e d.c.C):=⟨_,rfl⟩
 obtain⟨b2,hb2⟩: ∃b2,b2=decide (o∈held d):=⟨_,rfl⟩
 rw[←hb1] at HA
 rw[←hb2] at LI
 rw[←hb1,←hb2]
 clear h hI hb1 hb2 b0 h0 c0 cl
 go_enter Tryz.func148,Tryz.ntmps148
 go_wp2_with fail
 rw[←hW0]
 clear hW0
 cases b1 with
 |true=>
  refine iC kR kR ?_
  repeat(go_big_quiet_step ((first|(go_at_call 230;exact Calls.behind (HA.out _ (Behind.h _)))|(go_at_call 231;exact Calls.behind (LI.out _ (Behind.h _))))))
  refine wpQuiet_nil ?_
  intro w4 hw'
  have hb4:=iZ hw'
  clear hw'
  obtain⟨c4,f4⟩:=qD hb4;have z4:=hb4.size;try simp at z4 c4 f4
  go_wp2
  go_ret
  exact⟨by cases b2<;>rfl,HB0.out.trans (hb4.mono HB0.out.size)⟩
 |false=>
  refine iC kR kR ?_
  repeat(go_big_quiet_step ((first|(go_at_call 230;exact Calls.behind (HA.out _ (Behind.h _)))|(go_at_call 231;exact Calls.behind (LI.out _ (Behind.h _))))))
  refine wpQuiet_nil ?_
  intro w4 hw'
  have hb4:=iZ hw'
  clear hw'
  obtain⟨c4,f4⟩:=qD hb4;have z4:=hb4.size;try simp at z4 c4 f4
  go_wp2
  go_ret
  exact⟨by cases b2<;>rfl,HB0.out.trans (hb4.mono HB0.out.size)⟩
end
end
end Go.Proofs.YtdcbhlcbiokbeaaGreatDoor
