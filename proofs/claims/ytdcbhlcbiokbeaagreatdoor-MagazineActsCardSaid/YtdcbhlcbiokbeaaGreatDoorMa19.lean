/- Lemmas and contracts for the claim's last text: RDTake, RDTakeC, RDTakeD, DBack, DDrain. -/
import Derived.Test.YtdcbhlcbiokbeaaGreatDoorMa01
import Derived.Test.YtdcbhlcbiokbeaaGreatDoorMa14
import Derived.Test.YtdcbhlcbiokbeaaGreatDoorMa18
set_option linter.unusedSimpArgs false
set_option linter.unusedVariables false
set_option maxHeartbeats 16000000
set_option maxRecDepth 100000
namespace Go.Proofs.YtdcbhlcbiokbeaaGreatDoor
section
open Go.RowKit Go.Maps
attribute [local go_sem ↓] aW aX
section
variable {X Y S M M' F G:List Nat} {w w' w0:World} {ev:Nat→Addr} {pd gh pc pm gN e:Nat} {mn lw hi:Int} {O:List (List Int)} {v v' vp vp':Value} {A A':SA} {V V':HV} {U U':List Value} {d d':De} {c c':Ca}
theorem zQ (v:Int) (w:World) (n:Nat) (c q vp:Value) (p:Option Addr) (hq:q= .slice p n n) (h:iy w pd [c,q,vp]):
 Calls Tryz.prog 42 #[.pointer (some ⟨pd,0,none⟩),.int .i64 v] w fun e w'=>e= .returned (.bool (decide (0≤v∧v<n)))∧w'=w:=by
 have c5:=h.c 1 _ rfl;have cl:=h.lt
 subst hq
 clear h
 by_cases v0:0≤v
 ·by_cases v1:v<n
  ·rw[decide_eq_true (show 0≤v∧v<n from⟨v0,v1⟩)]
   have d0:decide (0≤v)=true:=decide_eq_true v0
   have d1:decide (v<(n:Int))=true:=decide_eq_true v1
   go_enter Tryz.func42,Tryz.ntmps42
   go_wp2
   go_ret
   exact⟨rfl,rfl⟩
  ·rw[decide_eq_false (show¬(0≤v∧v<n) from fun q=>v1 q.2)]
   have d0:decide (0≤v)=true:=decide_eq_true v0
   have d1:decide (v<(n:Int))=false:=decide_eq_false v1
   go_enter Tryz.func42,Tryz.ntmps42
   go_wp2
   go_ret
   exact⟨rfl,rfl⟩
 ·rw[decide_eq_false (show¬(0≤v∧v<n) from fun q=>v0 q.1)]
  have d0:decide (0≤v)=false:=decide_eq_false v0
  go_enter Tryz.func42,Tryz.ntmps42
  go_wp2
  go_ret
  exact⟨rfl,rfl⟩
theorem RD.worker (h:RD X w pd gh pc pm gN e mn lw hi O M v A V vp U d) (k:Int):
 Calls Tryz.prog 42 #[.pointer (some ⟨pd,0,none⟩),.int .i64 k] w fun e w'=>e= .returned (.bool (decide (0≤k∧k<d.H.length)))∧w'=w:=
 zQ k w d.H.length _ _ _ _ rfl h.b.d
theorem Dq (k n:Int) (u:Bool) (h:RD X w pd gh pc pm gN e mn lw hi O M v A V vp U d) (hX: ∀x∈X,x<w.heap.size) (hk:jI d k=none):
 Calls Tryz.prog 38 #[.pointer (some ⟨pd,0,none⟩),.int .i64 k,.int .i64 n,.bool u] w (iY X pd gh pc pm gN e mn lw hi O M A w (takeD mn O e d k n u).1 (.tuple #[obV (takeD mn O e d k n u).2.2,.int .i64 (takeD mn O e d k n u).2.1])):=by
 rw[mQ hk]
 have b1:Below w.heap.size w (w.alloc (.cells #[.int .i64 0,.int .i64 0] 49)):=iB
 have IW0:=(h.below b1).worker k
 rw[decide_eq_false (show¬(0≤k∧k<d.H.length) from fun q=>by have:=nZ hk;omega)] at IW0
 have IW:=ah IW0
 have FIN:Hid (∀W,Below w.heap.size w W→iY X pd gh pc pm gN e mn lw hi O M A w d (.tuple #[.agg #[.int .i64 0,.int .i64 0],.int .i64 2]) (.returned (.tuple #[.agg #[.int .i64 0,.int .i64 0],.int .i64 2])) W):=fun W b=>iY.here hX (h.below b) (Keep.of (S:=[]) b) (fun s q=>by cases q)
 have L1:=ah (show iy (w.alloc (.cells #[.int .i64 0,.int .i64 0] 49)) w.heap.size [.int .i64 0,.int .i64 0] from iy.mk_ w [.int .i64 0,.int .i64 0] 49 rfl)
 clear h hk b1 IW0
 go_enter Tryz.func38,iq
 go_wp2_with fail
 refine IW.out.mono ?_
 rintro r w1 ⟨rfl,rfl⟩
 have HM:=ah (L1.out.jC (.int .i64 0) (.int .i64 0))
 clear IW
 go_wp2
 have x0:=HM.out.c 0 _ rfl;have x1:=HM.out.c 1 _ rfl
 exact bodyPost_ret (v:=.tuple #[.agg #[.int .i64 0,.int .i64 0],.int .i64 2]) (by simp[x0,x1,results,gI,go_sem]) rfl (FIN.out _ iB)
theorem rdtake_A (k:Nat) (n:Int) (u:Bool) (h:RD X w pd gh pc pm gN e mn lw hi O M v A V vp U d) (hI:jY e d) (hX: ∀x∈X,x<w.heap.size) {l r:List Ob} {o:Ob} (hk:d.H[k]?=some (l++[o],r)):
 Calls Tryz.prog 38 #[.pointer (some ⟨pd,0,none⟩),.int .i64 k,.int .i64 n,.bool u] w (iY X pd gh pc pm gN e mn lw hi O M A w (takeD mn O e d k n u).1 (.tuple #[obV (takeD mn O e d k n u).2.2,.int .i64 (takeD mn O e d k n u).2.1])):=by
 have hkl:=(aj.1 hk).1
 have hl4:=(hI.h4 _ (aB hk)).1
 have ld:je (l++[o],r) d.P=((l++[o],r),d.P):=by unfold je;rw[if_neg sI]
 have et:takeD mn O e d k n u=(⟨d.c,d.H.set k (l,r),d.P⟩,0,o):=by
  rw[jD (jo hk) (o:=o) (by rw[ld];simp),ld]
  simp
 rw[et]
 have b1:Below w.heap.size w (w.alloc (.cells #[.int .i64 0,.int .i64 0] 49)):=iB
 have L1:=ah (show iy (w.alloc (.cells #[.int .i64 0,.int .i64 0] 49)) w.heap.size [.int .i64 0,.int .i64 0] from iy.mk_ w [.int .i64 0,.int .i64 0] 49 rfl)
 obtain⟨W1,hW1⟩: ∃W1,W1=w.alloc (.cells #[.int .i64 0,.int .i64 0] 49):=⟨_,rfl⟩
 have h1:=h.below b1
 rw[←hW1] at b1 L1 h1
 have s1:W1.heap.size=w.heap.size+1:=by rw[hW1];simp
 obtain⟨p,hp,o1,o2,g0,g1,f0,f1,gl⟩:=h1.hand hk
 obtain⟨⟨pa,pb⟩,rfl⟩: ∃q,q=p:=⟨_,rfl⟩
 obtain⟨q,cap,e1,cp1,cp2⟩:=o1.isSlice
 obtain⟨q2,cap2,e2,_,_⟩:=o2.isSlice
 simp only at e1 e2 g0 g1 hp
 subst e1 e2
 obtain⟨og,off,rfl,_,ogl,t0,t1⟩:=j5.at (by simpa using o1) (j:=l.length) (o:=o) sI
 have c1:=h1.b.d.c 1 _ rfl;have cl:=h1.b.d.lt
 have e3:(l++[o]).length=l.length+1:=sI
 rw[e3] at g0 hl4 cp1
 have IW0:=h1.worker k
 rw[decide_eq_true (show 0≤(k:Int)∧(k:Int)<d.H.length from om)] at IW0
 have IW:=ah IW0
 have hH4:=hI.hl
 have hvl:k<V.length:=by rw[h.b.hl];exact hkl
 obtain⟨p',hp',o1',o2',_⟩:=h.hand hk
 rw[hp] at hp'
 obtain rfl:=aH hp'
 have ro1:j5 X w (.slice (some ⟨og,off,none⟩) l.length cap) l:=by
  obtain⟨q',cap',e4,e5⟩:=o1'.cut l.length sI
  simp only at e4
  injection e4 with e6 _ e7
  subst e6 e7
  simpa using e5
 have ghl:gh<w.heap.size:=h.b.hs.lt
 have rQ:Hid (∀W2 W,Keep [] w W2→Below w.heap.size ((W2.setCell ⟨gh,k*2,none⟩ (.slice (some ⟨og,off,none⟩) l.length cap)).setCell ⟨gh,k*2+1,none⟩ (.slice q2 r.length cap2)) W→iY X pd gh pc pm gN e mn lw hi O M A w ⟨d.c,d.H.set k (l,r),d.P⟩ (.tuple #[.agg #[.int .i64 o.1,.int .i64 o.2],.int .i64 0]) (.returned (.tuple #[.agg #[.int .i64 o.1,.int .i64 o.2],.int .i64 0])) W):=fun W2 W k2 b=>by
  have lo:=(zP (h.b.hs.keep k2 sI) hvl (.slice (some ⟨og,off,none⟩) l.length cap) (.slice q2 r.length cap2)).below b ghl
  have kk:Keep [gh] w W:=(((k2.mono (S':=[gh]) (fun _ q=>by cases q)).setCell (p:=⟨gh,k*2,none⟩) (.inl sI) _).setCell (p:=⟨gh,k*2+1,none⟩) (.inl sI) _).low b (aI _)
  exact iY.here hX (h.oF k (p':=(.slice (some ⟨og,off,none⟩) l.length cap,.slice q2 r.length cap2)) (h':=(l,r)) hkl ro1 o2' kk lo) kk (fun s q=>by simp at q;subst q;exact ak _ (aD ..))
 obtain⟨m,hm⟩: ∃m,m=l.length:=⟨_,rfl⟩
 obtain⟨mr,hmr⟩: ∃m,m=r.length:=⟨_,rfl⟩
 obtain⟨nH,hnH⟩: ∃m,m=d.H.length:=⟨_,rfl⟩
 rw[←hm] at g0 t0 t1 hl4 cp1 rQ
 rw[←hmr] at g1 rQ
 rw[←hnH] at c1 hkl hH4
 have hw1:IntKind.i64.wrap (((m+1:Nat):Int)-1)=(m:Int):=by rw[aP _ om];omega
 have d1:decide ((m+1:Nat)=0)=false:=sI
 have r1: ¬(gh=w.heap.size):=om
 have r2: ¬(gh=w.heap.size+1):=om
 have r3: ¬(gh=w.heap.size+1+1):=om
 have r4: ¬(w.heap.size+1=gh):=om
 have r5: ¬(w.heap.size+1+1=gh):=om
 have r6: ¬(w.heap.size=gh):=om
 have K1:=ah (Keep.of (S:=[]) b1)
 have rl:w.heap.size<W1.heap.size:=om
 have i0:(0:Int)≤(k:Int):=om
 have i1:(k:Int)<(nH:Int):=om
 have S1:=ah s1
 rw[s1] at ogl cl gl
 have LL:=L1.out
 have v0:=LL.c 0 _ rfl;have v1:=LL.c 1 _ rfl;have vf0:=LL.f 0 sI;have vf1:=LL.f 1 sI
 clear h h1 hI hk hp o1 o2 o1' o2' ro1 e3 hm hmr hnH ld et b1 hp' IW0 LL
 go_enter Tryz.func38,iq
 go_wp2_with fail
 rw[←hW1]
 clear hW1
 refine IW.out.mono ?_
 rintro r' w1 ⟨rfl,rfl⟩
 clear IW
 go_wp2
 refine jR 7 kR kR ?_
 simp only[aV,bB,aS,bq]
 repeat still_step
 refine wpStill_nil ?_
 go_wp2
 have M:=ah ((((((L1.out.far (c:=gh) r1 (k*2) (.slice (some ⟨og,off,none⟩) m cap)).far (c:=gh) r1 (k*2+1) (.slice q2 mr cap2)).jC (.int .i64 o.1) (.int .i64 o.2)).past (.cells #[.slice (some ⟨og,off,none⟩) m cap,.slice q2 mr cap2] 251)).past (.cells #[.int .i64 o.1,.int .i64 o.2] 49)).jF)
 have x0:=M.out.c 0 _ rfl;have x1:=M.out.c 1 _ rfl
 exact bodyPost_ret (v:=.tuple #[.agg #[.int .i64 o.1,.int .i64 o.2],.int .i64 0]) (by simp[x0,x1,results,gI,go_sem]) rfl (rQ.out _ _ K1.out (by refine Below.drew ?_;refine fU ?_ (by simp;omega) _;refine fU ?_ (by simp;omega) _;refine fC ?_ sI _;refine fC ?_ sI _;exact aJ _ _))
theorem rdtake_B (k:Nat) (n:Int) (u:Bool) (h:RD X w pd gh pc pm gN e mn lw hi O M v A V vp U d) (hI:jY e d) (hX: ∀x∈X,x<w.heap.size) {l:List Ob} {o:Ob} (hk:d.H[k]?=some ([],l++[o])):
 Calls Tryz.prog 38 #[.pointer (some ⟨pd,0,none⟩),.int .i64 k,.int .i64 n,.bool u] w (iY X pd gh pc pm gN e mn lw hi O M A w (takeD mn O e d k n u).1 (.tuple #[obV (takeD mn O e d k n u).2.2,.int .i64 (takeD mn O e d k n u).2.1])):=by
 have hkl:=(aj.1 hk).1
 have hl4:=(hI.h4 _ (aB hk)).2
 have ld:je ([],l++[o]) d.P=((l++[o],[]),d.P):=by unfold je;rw[if_pos rfl,if_neg sI]
 have et:takeD mn O e d k n u=(⟨d.c,d.H.set k (l,[]),d.P⟩,0,o):=by
  rw[jD (jo hk) (o:=o) (by rw[ld];simp),ld]
  simp
 rw[et]
 have b1:Below w.heap.size w (w.alloc (.cells #[.int .i64 0,.int .i64 0] 49)):=iB
 have L1:=ah (show iy (w.alloc (.cells #[.int .i64 0,.int .i64 0] 49)) w.heap.size [.int .i64 0,.int .i64 0] from iy.mk_ w [.int .i64 0,.int .i64 0] 49 rfl)
 obtain⟨W1,hW1⟩: ∃W1,W1=w.alloc (.cells #[.int .i64 0,.int .i64 0] 49):=⟨_,rfl⟩
 have h1:=h.below b1
 rw[←hW1] at b1 L1 h1
 have s1:W1.heap.size=w.heap.size+1:=by rw[hW1];simp
 obtain⟨p,hp,o1,o2,g0,g1,f0,f1,gl⟩:=h1.hand hk
 obtain⟨⟨pa,pb⟩,rfl⟩: ∃q,q=p:=⟨_,rfl⟩
 obtain⟨q2,cap2,e2,_,_⟩:=o1.isSlice
 obtain⟨q,cap,e1,cp1,cp2⟩:=o2.isSlice
 simp only at e1 e2 g0 g1 hp
 subst e1 e2
 obtain⟨og,off,rfl,_,ogl,t0,t1⟩:=j5.at (by simpa using o2) (j:=l.length) (o:=o) sI
 have c1:=h1.b.d.c 1 _ rfl;have cl:=h1.b.d.lt
 have e3:(l++[o]).length=l.length+1:=sI
 rw[e3] at g1 hl4 cp1
 rw[show([]:List Ob).length=0 from rfl] at g0
 have IW0:=h1.worker k
 rw[decide_eq_true (show 0≤(k:Int)∧(k:Int)<d.H.length from om)] at IW0
 have IW:=ah IW0
 have hH4:=hI.hl
 have hvl:k<V.length:=by rw[h.b.hl];exact hkl
 obtain⟨p',hp',o1',o2',_⟩:=h.hand hk
 rw[hp] at hp'
 obtain rfl:=aH hp'
 have ro1:j5 X w (.slice (some ⟨og,off,none⟩) l.length cap) l:=by
  obtain⟨q',cap',e4,e5⟩:=o2'.cut l.length sI
  simp only at e4
  injection e4 with e6 _ e7
  subst e6 e7
  simpa using e5
 have ghl:gh<w.heap.size:=h.b.hs.lt
 have rQ:Hid (∀W2 W,Keep [] w W2→Below w.heap.size ((W2.setCell ⟨gh,k*2,none⟩ (.slice (some ⟨og,off,none⟩) l.length cap)).setCell ⟨gh,k*2+1,none⟩ (.slice q2 0 cap2)) W→iY X pd gh pc pm gN e mn lw hi O M A w ⟨d.c,d.H.set k (l,[]),d.P⟩ (.tuple #[.agg #[.int .i64 o.1,.int .i64 o.2],.int .i64 0]) (.returned (.tuple #[.agg #[.int .i64 o.1,.int .i64 o.2],.int .i64 0])) W):=fun W2 W k2 b=>by
  have lo:=(zP (h.b.hs.keep k2 sI) hvl (.slice (some ⟨og,off,none⟩) l.length cap) (.slice q2 0 cap2)).below b ghl
  have kk:Keep [gh] w W:=(((k2.mono (S':=[gh]) (fun _ q=>by cases q)).setCell (p:=⟨gh,k*2,none⟩) (.inl sI) _).setCell (p:=⟨gh,k*2+1,none⟩) (.inl sI) _).low b (aI _)
  exact iY.here hX (h.oF k (p':=(.slice (some ⟨og,off,none⟩) l.length cap,.slice q2 0 cap2)) (h':=(l,[])) hkl ro1 o1' kk lo) kk (fun s q=>by simp at q;subst q;exact ak _ (aD ..))
 obtain⟨m,hm⟩: ∃m,m=l.length:=⟨_,rfl⟩
 obtain⟨nH,hnH⟩: ∃m,m=d.H.length:=⟨_,rfl⟩
 rw[←hm] at g1 t0 t1 hl4 cp1 rQ
 rw[←hnH] at c1 hkl hH4
 have hw1:IntKind.i64.wrap (((m+1:Nat):Int)-1)=(m:Int):=by rw[aP _ om];omega
 have d1:decide ((m+1:Nat)=0)=false:=sI
 have r1: ¬(gh=w.heap.size):=om
 have r2: ¬(gh=w.heap.size+1):=om
 have r3: ¬(gh=w.heap.size+1+1):=om
 have r4: ¬(w.heap.size+1=gh):=om
 have r5: ¬(w.heap.size+1+1=gh):=om
 have r6: ¬(w.heap.size=gh):=om
 have K1:=ah (Keep.of (S:=[]) b1)
 have rl:w.heap.size<W1.heap.size:=om
 have i0:(0:Int)≤(k:Int):=om
 have i1:(k:Int)<(nH:Int):=om
 have S1:=ah s1
 rw[s1] at ogl cl gl
 have LL:=L1.out
 have v0:=LL.c 0 _ rfl;have v1:=LL.c 1 _ rfl;have vf0:=LL.f 0 sI;have vf1:=LL.f 1 sI
 clear h h1 hI hk hp o1 o2 o1' o2' ro1 e3 hm hnH ld et b1 hp' IW0 LL
 go_enter Tryz.func38,iq
 go_wp2_with fail
 rw[←hW1]
 clear hW1
 refine IW.out.mono ?_
 rintro r' w1 ⟨rfl,rfl⟩
 clear IW
 go_wp2
 refine jR 7 kR kR ?_
 simp only[aV,bB,aS,bq]
 repeat still_step
 refine wpStill_nil ?_
 go_wp2
 have M:=ah ((((((L1.out.far (c:=gh) r1 (k*2) (.slice (some ⟨og,off,none⟩) m cap)).far (c:=gh) r1 (k*2+1) (.slice q2 0 cap2)).jC (.int .i64 o.1) (.int .i64 o.2)).past (.cells #[.slice (some ⟨og,off,none⟩) m cap,.slice q2 0 cap2] 251)).past (.cells #[.int .i64 o.1,.int .i64 o.2] 49)).jF)
 have x0:=M.out.c 0 _ rfl;have x1:=M.out.c 1 _ rfl
 exact bodyPost_ret (v:=.tuple #[.agg #[.int .i64 o.1,.int .i64 o.2],.int .i64 0]) (by simp[x0,x1,results,gI,go_sem]) rfl (rQ.out _ _ K1.out (by refine Below.drew ?_;refine fU ?_ (by simp;omega) _;refine fU ?_ (by simp;omega) _;refine fC ?_ sI _;refine fC ?_ sI _;exact aJ _ _))
end
end
section
open Go.RowKit Go.Maps
attribute [local go_sem ↓] aW aX
section
variable {X Y S M M' F G:List Nat} {w w' w0:World} {ev:Nat→Addr} {pd gh pc pm gN e:Nat} {mn lw hi:Int} {O:List (List Int)} {v v' vp vp':Value} {A A':SA} {V V':HV} {U U':List Value} {d d':De} {c c':Ca}
theorem rdtake_C (k:Nat) (n:Int) (u:Bool) (h:RD X w pd gh pc pm gN e mn lw hi O M v A V vp U d) (hI:jY e d) (hX: ∀x∈X,x<w.heap.size) {P':List (List Ob)} {l:List Ob} {o:Ob} (hk:d.H[k]?=some ([],[])) (hP:d.P=P'++[l++[o]]):
 Calls Tryz.prog 38 #[.pointer (some ⟨pd,0,none⟩),.int .i64 k,.int .i64 n,.bool u] w (iY X pd gh pc pm gN e mn lw hi O M A w (takeD mn O e d k n u).1 (.tuple #[obV (takeD mn O e d k n u).2.2,.int .i64 (takeD mn O e d k n u).2.1])):=by
 have hkl:=(aj.1 hk).1
 have hl4:(l++[o]).length≤4:=Nat.le_of_eq (hI.p4 (l++[o]) (by rw[hP];simp))
 have ld:je ([],[]) d.P=((l++[o],[]),P'):=by unfold je;rw[if_pos rfl,if_pos rfl,hP];simp
 have et:takeD mn O e d k n u=(⟨d.c,d.H.set k (l,[]),P'⟩,0,o):=by
  rw[jD (jo hk) (o:=o) (by rw[ld];simp),ld]
  simp
 rw[et]
 have b1:Below w.heap.size w (w.alloc (.cells #[.int .i64 0,.int .i64 0] 49)):=iB
 have L1:=ah (show iy (w.alloc (.cells #[.int .i64 0,.int .i64 0] 49)) w.heap.size [.int .i64 0,.int .i64 0] from iy.mk_ w [.int .i64 0,.int .i64 0] 49 rfl)
 obtain⟨W1,hW1⟩: ∃W1,W1=w.alloc (.cells #[.int .i64 0,.int .i64 0] 49):=⟨_,rfl⟩
 have h1:=h.below b1
 rw[←hW1] at b1 L1 h1
 have s1:W1.heap.size=w.heap.size+1:=by rw[hW1];simp
 obtain⟨p,hp,o1,o2,g0,g1,f0,f1,gl⟩:=h1.hand hk
 obtain⟨⟨pa,pb⟩,rfl⟩: ∃q,q=p:=⟨_,rfl⟩
 obtain⟨q3,cap3,e1,_,_⟩:=o1.isSlice
 obtain⟨q2,cap2,e2,_,_⟩:=o2.isSlice
 simp only at e1 e2 g0 g1 hp
 subst e1 e2
 rw[show([]:List Ob).length=0 from rfl] at g0 g1
 have hPl:d.P[P'.length]?=some (l++[o]):=by rw[hP];simp
 obtain⟨qp,kp,evp,kp1,kp2,yc⟩:=h1.pile
 obtain⟨u,pg,po,hu,epp,_,pgl,pc2,ru⟩:=yc P'.length _ hPl
 subst epp
 obtain⟨q,cap,e1,cp1,cp2⟩:=ru.isSlice
 subst e1
 subst evp
 obtain⟨og,off,rfl,ogx,ogl,t0,t1⟩:=j5.at ru (j:=l.length) (o:=o) sI
 have c2:=h1.b.d.c 2 _ rfl
 have nP:d.P.length=P'.length+1:=by rw[hP];simp
 rw[nP] at c2 kp1
 have pl:P'.length≤65536:=by have:=(ji hI).1;have:=jy hI.c;omega
 have hvp:(.slice (some ⟨pg,po,none⟩) d.P.length kp:Value)= .slice (some ⟨pg,po,none⟩) (P'.length+1) kp:=by rw[nP]
 have c1:=h1.b.d.c 1 _ rfl;have cl:=h1.b.d.lt
 have e3:(l++[o]).length=l.length+1:=sI
 rw[e3] at pc2 hl4 cp1
 have IW0:=h1.worker k
 rw[decide_eq_true (show 0≤(k:Int)∧(k:Int)<d.H.length from om)] at IW0
 have IW:=ah IW0
 have hH4:=hI.hl
 have hvl:k<V.length:=by rw[h.b.hl];exact hkl
 obtain⟨p',hp',o1',o2',_⟩:=h.hand hk
 rw[hp] at hp'
 obtain rfl:=aH hp'
 have ruw:j5 X w (.slice (some ⟨og,off,none⟩) (l++[o]).length cap) (l++[o]):=h.b.po _ _ _ hu hPl
 have ro1:j5 X w (.slice (some ⟨og,off,none⟩) l.length cap) l:=by
  obtain⟨q',cap',e4,e5⟩:=ruw.cut l.length sI
  injection e4 with e6 _ e7
  subst e6 e7
  simpa using e5
 have hpw:jT X w (.slice (some ⟨pg,po,none⟩) P'.length kp) (U.take P'.length):=h.b.row.cutV P'.length om
 have hul:(U.take P'.length).length=P'.length:=by rw[aQ,h.b.ul];omega
 have hpo: ∀(i:Nat) (u:Value) (m:List Ob),(U.take P'.length)[i]?=some u→P'[i]?=some m→j5 X w u m:=fun i u m hu' hm'=>by
  have il:=(aj.1 hm').1
  rw[bW il] at hu'
  exact h.b.po i u m hu' (by rw[hP,bE il];exact hm')
 have dlw:=h.b.d
 have ghl:gh<w.heap.size:=h.b.hs.lt
 have rQ:Hid (∀W2 W,Keep [] w W2→Below w.heap.size (((W2.setCell ⟨pd,2,none⟩ (.slice (some ⟨pg,po,none⟩) P'.length kp)).setCell ⟨gh,k*2,none⟩ (.slice (some ⟨og,off,none⟩) l.length cap)).setCell ⟨gh,k*2+1,none⟩ (.slice q2 0 cap2)) W→iY X pd gh pc pm gN e mn lw hi O M A w ⟨d.c,d.H.set k (l,[]),P'⟩ (.tuple #[.agg #[.int .i64 o.1,.int .i64 o.2],.int .i64 0]) (.returned (.tuple #[.agg #[.int .i64 o.1,.int .i64 o.2],.int .i64 0])) W):=fun W2 W k2 b=>by
  have kp':Keep [pd] W2 (W2.setCell ⟨pd,2,none⟩ (.slice (some ⟨pg,po,none⟩) P'.length kp)):=(Keep.refl _ _).setCell (p:=⟨pd,2,none⟩) (.inl sI) _
  have lo:=(zP ((h.b.hs.keep k2 sI).keep kp' (by simpa using fun q=>h.b.ne q.symm)) hvl (.slice (some ⟨og,off,none⟩) l.length cap) (.slice q2 0 cap2)).below b ghl
  have ld':=(((h.b.d.keep k2 sI).store 2 (.slice (some ⟨pg,po,none⟩) P'.length kp) sI).far (c:=gh) (fun q=>h.b.ne q.symm) (k*2) (.slice (some ⟨og,off,none⟩) l.length cap)).far (c:=gh) (fun q=>h.b.ne q.symm) (k*2+1) (.slice q2 0 cap2) |>.below b h.b.d.lt
  have kk:Keep [gh,pd] w W:=((((k2.mono (S':=[gh,pd]) (fun _ q=>by cases q)).setCell (p:=⟨pd,2,none⟩) (.inl sI) _).setCell (p:=⟨gh,k*2,none⟩) (.inl sI) _).setCell (p:=⟨gh,k*2+1,none⟩) (.inl sI) _).low b (aI _)
  exact iY.here hX (h.xX k (p':=(.slice (some ⟨og,off,none⟩) l.length cap,.slice q2 0 cap2)) (h':=(l,[])) hkl ro1 o2' kk lo ld' hpw hul hpo) kk (fun s q=>by
   simp at q
   rcases q with rfl|rfl
   ·exact ak _ (aD ..)
   ·exact aD ..)
 obtain⟨m,hm⟩: ∃m,m=l.length:=⟨_,rfl⟩
 obtain⟨np,hnp⟩: ∃m,m=P'.length:=⟨_,rfl⟩
 obtain⟨nH,hnH⟩: ∃m,m=d.H.length:=⟨_,rfl⟩
 rw[←hm] at pc2 t0 t1 hl4 cp1 rQ
 rw[←hnp] at c2 pc2 kp1 pl rQ
 have cf2:=h1.b.d.f 2 sI
 unfold maxLen at kp2
 have hw2:IntKind.i64.wrap (((np+1:Nat):Int)-1)=(np:Int):=by rw[aP _ om];omega
 have d2:decide ((0:Int)<((np+1:Nat):Int))=true:=decide_eq_true om
 have hpg: ¬(pd=gh):=h.b.ne
 have hpo1: ¬(pd=og):=fun q=>ogx (q▸h.b.mem.1)
 have hpo2: ¬(og=pd):=fun q=>ogx (q▸h.b.mem.1)
 have hgp: ¬(gh=pd):=fun q=>h.b.ne q.symm
 rw[←hnH] at c1 hkl hH4
 have hw1:IntKind.i64.wrap (((m+1:Nat):Int)-1)=(m:Int):=by rw[aP _ om];omega
 have d1:decide ((m+1:Nat)=0)=false:=sI
 have r1: ¬(gh=w.heap.size):=om
 have r2: ¬(gh=w.heap.size+1):=om
 have r3: ¬(gh=w.heap.size+1+1):=om
 have r4: ¬(w.heap.size+1=gh):=om
 have r5: ¬(w.heap.size+1+1=gh):=om
 have r6: ¬(w.heap.size=gh):=om
 have K1:=ah (Keep.of (S:=[]) b1)
 have rl:w.heap.size<W1.heap.size:=om
 have i0:(0:Int)≤(k:Int):=om
 have i1:(k:Int)<(nH:Int):=om
 have S1:=ah s1
 rw[s1] at ogl cl gl pgl
 have LL:=L1.out
 have v0:=LL.c 0 _ rfl;have v1:=LL.c 1 _ rfl;have vf0:=LL.f 0 sI;have vf1:=LL.f 1 sI
 have plw:pd<w.heap.size:=h.b.d.lt
 have s1': ¬(pd=w.heap.size):=om
 have s2': ¬(pd=w.heap.size+1):=om
 have s3': ¬(pd=w.heap.size+1+1):=om
 have s4': ¬(w.heap.size+1=pd):=om
 have s5': ¬(w.heap.size+1+1=pd):=om
 have s6': ¬(w.heap.size=pd):=om
 clear h h1 hI hk hp o1 o2 o1' o2' ro1 e3 hm hnp hnH hPl hu ru ruw hpw hul hpo dlw yc nP hvp hP ld et b1 hp' IW0 LL
 go_enter Tryz.func38,iq
 go_wp2_with fail
 rw[←hW1]
 clear hW1
 refine IW.out.mono ?_
 rintro r' w1 ⟨rfl,rfl⟩
 clear IW
 go_wp2
 refine jR 7 kR kR ?_
 simp only[aV,bB,aS,bq]
 repeat still_step
 refine wpStill_nil ?_
 go_wp2
 have M:=ah (((((((L1.out.far (c:=pd) s1' 2 (.slice (some ⟨pg,po,none⟩) np kp)).far (c:=gh) r1 (k*2) (.slice (some ⟨og,off,none⟩) m cap)).far (c:=gh) r1 (k*2+1) (.slice q2 0 cap2)).jC (.int .i64 o.1) (.int .i64 o.2)).past (.cells #[.slice (some ⟨og,off,none⟩) m cap,.slice q2 0 cap2] 251)).past (.cells #[.int .i64 o.1,.int .i64 o.2] 49)).jF)
 have x0:=M.out.c 0 _ rfl;have x1:=M.out.c 1 _ rfl
 exact bodyPost_ret (v:=.tuple #[.agg #[.int .i64 o.1,.int .i64 o.2],.int .i64 0]) (by simp[x0,x1,results,gI,go_sem]) rfl (rQ.out _ _ K1.out (by refine Below.drew ?_;refine fU ?_ (by simp;omega) _;refine fU ?_ (by simp;omega) _;refine fC ?_ sI _;refine fC ?_ sI _;exact aJ _ _))
end
end
section
open Go.RowKit Go.Maps
attribute [local go_sem ↓] aW aX
section
variable {X Y S M M' F G:List Nat} {w w' w0:World} {ev:Nat→Addr} {pd gh pc pm gN e:Nat} {mn lw hi:Int} {O:List (List Int)} {v v' vp vp':Value} {A A':SA} {V V':HV} {U U':List Value} {d d':De} {c c':Ca}
theorem rdtake_D (k:Nat) (n:Int) (u:Bool) (h:RD X w pd gh pc pm gN e mn lw hi O M v A V vp U d) (hI:jY e d) (hX: ∀x∈X,x<w.heap.size) (hk:d.H[k]?=some ([],[])) (hP:d.P=[]):
 Calls Tryz.prog 38 #[.pointer (some ⟨pd,0,none⟩),.int .i64 k,.int .i64 n,.bool u] w (iY X pd gh pc pm gN e mn lw hi O M A w (takeD mn O e d k n u).1 (.tuple #[obV (takeD mn O e d k n u).2.2,.int .i64 (takeD mn O e d k n u).2.1])):=by
 have hkl:=(aj.1 hk).1
 have ld:(je ([],[]) d.P).1.1.getLast?=none:=by rw[hP];rfl
 rw[jW (jo hk) ld]
 have b1:Below w.heap.size w (w.alloc (.cells #[.int .i64 0,.int .i64 0] 49)):=iB
 have L1:=ah (show iy (w.alloc (.cells #[.int .i64 0,.int .i64 0] 49)) w.heap.size [.int .i64 0,.int .i64 0] from iy.mk_ w [.int .i64 0,.int .i64 0] 49 rfl)
 obtain⟨W1,hW1⟩: ∃W1,W1=w.alloc (.cells #[.int .i64 0,.int .i64 0] 49):=⟨_,rfl⟩
 have rH: ∀y∈w.heap.size::X,y∈X∨w.heap.size≤y:=fun y hy=>by
  rcases aC.1 hy with rfl|q
  ·exact .inr (aI _)
  ·exact .inl q
 have h1:=(h.more (Y:=w.heap.size::X) (fun x q=>ak _ q) rH).below b1
 rw[←hW1] at b1 L1 h1
 have s1:W1.heap.size=w.heap.size+1:=by rw[hW1];simp
 obtain⟨p,hp,o1,o2,g0,g1,f0,f1,gl⟩:=h1.hand hk
 obtain⟨⟨pa,pb⟩,rfl⟩: ∃q,q=p:=⟨_,rfl⟩
 obtain⟨q,cap,e1,cp1,cp2⟩:=o1.isSlice
 obtain⟨q2,cap2,e2,_,_⟩:=o2.isSlice
 simp only at e1 e2 g0 g1 hp
 subst e1 e2
 rw[show([]:List Ob).length=0 from rfl] at g0 g1
 obtain⟨qp,kp,evp,_,_,_⟩:=h1.pile
 rw[hP,show([]:List (List Ob)).length=0 from rfl] at evp
 subst evp
 have c0:=h1.b.d.c 0 _ rfl;have c1:=h1.b.d.c 1 _ rfl;have c2:=h1.b.d.c 2 _ rfl;have cl:=h1.b.d.lt
 have IW0:=h1.worker k
 rw[decide_eq_true (show 0≤(k:Int)∧(k:Int)<d.H.length from om)] at IW0
 have IW:=ah IW0
 have hH4:=hI.hl
 have NR:Hid (w.heap.size∉rds pd gh pc pm gN A M):=fun q=>by have:=h.lt _ q;omega
 have TK:Hid (∀W,Below W1.heap.size W1 W→Calls Tryz.prog 24 #[.pointer (some ⟨pc,0,none⟩),.int .i64 n,.bool u] W (oG (w.heap.size::X) pc pm gN e mn lw hi O M A W (takeC mn O e d.c n u))):=fun W b=>
  Dm n u (h1.below b).c hI.c (fun x hx=>by
   have:=b.size
   rcases aC.1 hx with rfl|q
   ·omega
   ·have:=hX x q;omega)
 have H1:=ah h1;have B1:=ah b1
 have rQ:Hid (∀Wb w5 W en,Below W1.heap.size W1 Wb→oG (w.heap.size::X) pc pm gN e mn lw hi O M A Wb (takeC mn O e d.c n u) en w5→W=(w5.setCell ⟨w.heap.size,0,none⟩ (.int .i64 (takeC mn O e d.c n u).2.2.1)).setCell ⟨w.heap.size,1,none⟩ (.int .i64 (takeC mn O e d.c n u).2.2.2)→
  iY X pd gh pc pm gN e mn lw hi O M A w ⟨(takeC mn O e d.c n u).1,d.H,d.P⟩ (.tuple #[obV (takeC mn O e d.c n u).2.2,.int .i64 (takeC mn O e d.c n u).2.1]) (.returned (.tuple #[.agg #[.int .i64 (takeC mn O e d.c n u).2.2.1,.int .i64 (takeC mn O e d.c n u).2.2.2],.int .i64 (takeC mn O e d.c n u).2.1])) W):=fun Wb w5 W en bb hp hW=>by
  obtain⟨hr,X',M',v',A',r1,r2,r3,r4,r5,r6,r7⟩:=hp
  have hb:=H1.out.below bb
  have zb:=bb.size
  have h4: ∀y∈rcs pc pm gN A' M',y∈rcs pc pm gN A M∨Wb.heap.size≤y:=fun y hy=>by
   rcases aG.1 hy with t|t
   ·rcases aC.1 t with t|t
    ·subst t;exact .inl (av _ (aD ..))
    ·exact(r7 y t).imp (fun s=>av _ (ak _ s)) id
   ·rcases aC.1 t with t|t
    ·subst t;exact .inl (aA _ (aD ..))
    ·rcases aC.1 t with t|t
     ·subst t;exact .inl (aA _ (ak _ (aD ..)))
     ·exact(r6 y t).imp (fun s=>aA _ (ak _ (ak _ s))) id
  have hS: ∀s∈gN::nK pc A,s∈rcs pc pm gN A M:=fun s hs=>by
   rcases aC.1 hs with t|t
   ·subst t;exact aA _ (ak _ (aD ..))
   ·exact av _ t
  have r:=hb.cache r1 r3 r4 h4 r2 hS
  have nres:w.heap.size∉rds pd gh pc pm gN A' M':=fun t=>by
   have l1:=h1.b.d.lt
   rcases aC.1 t with t|t
   ·exact NR.out (t▸aD ..)
   ·rcases aC.1 t with t|t
    ·exact NR.out (t▸ak _ (aD ..))
    ·rcases h4 _ t with t|t
     ·exact NR.out (ak _ (ak _ t))
     ·omega
  have kk:Keep [w.heap.size] w5 W:=by rw[hW];exact((Keep.refl _ _).setCell (p:=⟨w.heap.size,0,none⟩) (.inl sI) _).setCell (p:=⟨w.heap.size,1,none⟩) (.inl sI) _
  have rW:=r.keep kk (fun s q=>by simp at q;subst q;exact .inl ⟨r3 _ (aD ..),nres⟩)
  have K:Keep (gN::nK pc A) w W:=(((Keep.of (B1.out.trans (bb.mono B1.out.size))).then r2)).trans kk (fun s q=>by simp at q;subst q;exact .inr (aI _))
  refine⟨rfl,X',M',v',A',V,_,U,rW,K.mono (fun s q=>ak _ (ak _ (hS s q))),fun x q=>r3 x (ak _ q),fun x q=> ?_,fun x q=>aF (r5 x q) kk.size,fun y q=> ?_⟩
  ·rcases r4 x q with t|t
   ·rcases aC.1 t with rfl|t
    ·exact .inr (aI _)
    ·exact .inl t
   ·exact .inr om
  ·rcases aC.1 q with t|q
   ·subst t;exact .inl (aD ..)
   ·rcases aC.1 q with t|q
    ·subst t;exact .inl (ak _ (aD ..))
    ·rcases h4 y q with t|t
     ·exact .inl (ak _ (ak _ t))
     ·exact .inr om
 have PV:Hid (∀Wb w5 en,oG (w.heap.size::X) pc pm gN e mn lw hi O M A Wb (takeC mn O e d.c n u) en w5→en= .returned (.tuple #[.agg #[.int .i64 (takeC mn O e d.c n u).2.2.1,.int .i64 (takeC mn O e d.c n u).2.2.2],.int .i64 (takeC mn O e d.c n u).2.1])∧Keep (gN::nK pc A) Wb w5):=fun Wb w5 en hp=>by
  obtain⟨hr,X',M',v',A',r1,r2,_⟩:=hp
  exact⟨hr,r2⟩
 have NG:Hid (w.heap.size∉gN::nK pc A):=fun q=>NR.out (by
  rcases aC.1 q with t|t
  ·exact ak _ (ak _ (t▸aA _ (ak _ (aD ..))))
  ·exact ak _ (ak _ (av _ t)))
 obtain⟨nH,hnH⟩: ∃m,m=d.H.length:=⟨_,rfl⟩
 rw[←hnH] at c1 hkl hH4
 obtain⟨r,hr⟩: ∃r,r=takeC mn O e d.c n u:=⟨_,rfl⟩
 rw[←hr] at TK rQ PV ⊢
 obtain⟨c1',qq,j1,j2⟩:=r
 simp only[obV] at rQ PV ⊢
 have i0:(0:Int)≤(k:Int):=om
 have i1:(k:Int)<(nH:Int):=om
 have S1:=ah s1
 rw[s1] at cl gl
 have LL:=L1.out
 have v0:=LL.c 0 _ rfl;have v1:=LL.c 1 _ rfl;have vf0:=LL.f 0 sI;have vf1:=LL.f 1 sI
 have rl:w.heap.size<w.heap.size+1:=om
 clear h h1 hI hk hp o1 o2 hnH ld b1 IW0 LL rH hr hP
 go_enter Tryz.func38,iq
 go_wp2_with fail
 rw[←hW1]
 clear hW1
 refine IW.out.mono ?_
 rintro r' w1 ⟨rfl,rfl⟩
 clear IW
 go_wp2_with fail
 refine(TK.out _ (by rw[S1.out];exact iB)).mono ?_
 intro en w5 hp
 obtain⟨e1,kk5⟩:=PV.out _ _ _ hp
 have HP:=ah hp
 have LL:=(L1.out.past (.cells #[.slice q 0 cap,.slice q2 0 cap2] 251)).keep kk5 NG.out
 have f0:=LL.f 0 sI;have f1:=LL.f 1 sI;have ll:=LL.lt;have y0:=LL.c 0 _ rfl;have y1:=LL.c 1 _ rfl
 have HM:=ah (LL.jC (.int .i64 j1) (.int .i64 j2))
 clear hp kk5 LL v0 v1 vf0 vf1 TK PV c0 c1 c2 cl
 subst e1
 dsimp only
 go_wp2
 have x0:=HM.out.c 0 _ rfl;have x1:=HM.out.c 1 _ rfl
 exact bodyPost_ret (v:=.tuple #[.agg #[.int .i64 j1,.int .i64 j2],.int .i64 qq]) (by simp[x0,x1,results,gI,go_sem]) rfl (rQ.out _ _ _ _ (by rw[S1.out];exact iB) HP.out rfl)
theorem Dr (k n:Int) (u:Bool) (h:RD X w pd gh pc pm gN e mn lw hi O M v A V vp U d) (hI:jY e d) (hX: ∀x∈X,x<w.heap.size):
 Calls Tryz.prog 38 #[.pointer (some ⟨pd,0,none⟩),.int .i64 k,.int .i64 n,.bool u] w (iY X pd gh pc pm gN e mn lw hi O M A w (takeD mn O e d k n u).1 (.tuple #[obV (takeD mn O e d k n u).2.2,.int .i64 (takeD mn O e d k n u).2.1])):=by
 cases hh:jI d k with
 |none=>exact Dq k n u h hX hh
 |some g=>
  obtain⟨k0,h1,h2,h3⟩:=jP hh
  obtain⟨kn,hkn⟩: ∃kn,kn=k.toNat:=⟨_,rfl⟩
  rw[←hkn] at h1 h3
  subst h3
  obtain⟨g1,g2⟩:=g
  rcases dD g1 with rfl|⟨l,o,rfl⟩
  ·rcases dD g2 with rfl|⟨l,o,rfl⟩
   ·rcases dD d.P with hP|⟨P0,m,hP⟩
    ·exact rdtake_D kn n u h hI hX h1 hP
    ·have hm:=hI.p4 m (by rw[hP];simp)
     rcases dD m with rfl|⟨l,o,rfl⟩
     ·simp at hm
     ·exact rdtake_C kn n u h hI hX h1 (by simpa using hP)
   ·exact rdtake_B kn n u h hI hX (by simpa using h1)
  ·exact rdtake_A kn n u h hI hX (by simpa using h1)
end
end
section
open Go.RowKit Go.Maps
attribute [local go_sem ↓] aW aX
theorem run_appM {T E:TypeId} {z:Value} {s b:Nat} (hE:ElS T E z s b) {w:World} (ty:TypeId) {base:Nat} {v:Value} {n m:Nat} {xs ms:List Value} (hown:w.ownsRow base E s v n xs) {p:Option Addr} {c:Nat} (hm:ms.length=m*s) (hs:rY w p ms) (h1: ∀u∈ms,u.oneCell'=true)
 (hl:n+m≤70000) (hb:base≤w.heap.size):
 ∃q k w',(Builtin.append_ #[T,T] ty #[v,.slice p m c]).run Tryz.prog w= .ok (.slice q (n+m) k) w'∧w'.ownsRow base E s (.slice q (n+m) k) (n+m) (xs++ms)∧w.grownBy w' v.ownBlock∧
  ((Value.slice q (n+m) k).ownBlock=v.ownBlock∨(Value.slice q (n+m) k).ownBlock=some w.heap.size):=by
 obtain⟨i0,hi,hz0,hz1,hz2⟩:=info_parts hE.info
 have ht:=hE.und
 have hfew:=hE.few
 have hpos:=hE.pos
 rcases hs with⟨rfl,hms⟩|⟨a,rfl,hc⟩
 ·subst hms
  have hm0:m=0:=by
   rcases Nat.eq_zero_or_pos m with q|q
   ·exact q
   ·have h2:=Nat.mul_pos q hpos
    rw[List.length_nil] at hm
    omega
  subst hm0
  rcases hown.2 with⟨rfl,hu⟩|⟨g,cap,cur,rfl,_,_,hnc,_⟩
  ·refine⟨none,0,w,?_,?_,⟨rfl,rfl,rfl,aI _,fun _ _ _=>rfl⟩,.inl rfl⟩
   ·simp[Builtin.append_,run_underlying ht,sizeOf,typeInfo,hi,Builtin.lenOf,Builtin.firstCells,hu]
   ·subst hu
    simpa using hown
  ·refine⟨some ⟨g,0,none⟩,cap,w,?_,by simpa using hown,⟨rfl,rfl,rfl,aI _,fun _ _ _=>rfl⟩,.inl rfl⟩
   simp[Builtin.append_,run_underlying ht,sizeOf,typeInfo,hi,Builtin.lenOf,Builtin.firstCells,hnc,storeCells]
 ·obtain⟨v',w',hrun,h2,h3,_,h5⟩:=run_append_own_at (P:=Tryz.prog) w base T ty E i0 z s b ht hi hz0 hz1 hz2 hE.one hE.pos v n xs hown a m c ms
   hm hc h1 (by unfold maxLen;omega) (by
    have:(n+m)*b≤70000*64:=dB hl hfew
    omega) hb
  have hf: ∃q k,v'= .slice q (n+m) k:=by
   rcases h2.2 with⟨e,e2⟩|⟨g',cap',cur,e,_⟩
   ·exact⟨none,0,by rw[e,e2]⟩
   ·exact⟨_,_,e⟩
  obtain⟨q,k,rfl⟩:=hf
  exact⟨q,k,w',hrun,h2,h3,h5⟩
theorem kS {T E:TypeId} {z:Value} {s b:Nat} (hE:ElS T E z s b) {base:Nat} {v:Value} {n m:Nat} {xs ms:List Value} {w:World} {p:Option Addr} {c:Nat} {ops:Array Oper} {rest:List Oper} {o:Oper} {a:Act} {Q:Exit→Act→World→Prop} (hgd:o.guard=none) (sl x:Operand)
 (ho:o.op= .call {callee:=.builtin .append,args:=#[sl,x],argTypes:=#[T,T]}) (hv:a.eval sl=v) (hx:a.eval x= .slice p m c)
 (hown:w.ownsRow base E s v n xs) (hm:ms.length=m*s) (hs:rY w p ms) (h1: ∀u∈ms,u.oneCell'=true) (hl:n+m≤70000) (hb:base≤w.heap.size)
 (h: ∀q k w',w'.ownsRow base E s (.slice q (n+m) k) (n+m) (xs++ms)→w.grownBy w' v.ownBlock→((Value.slice q (n+m) k).ownBlock=v.ownBlock∨(Value.slice q (n+m) k).ownBlock=some w.heap.size)→wpList Tryz.prog ops Q rest (a.put o.dst (.slice q (n+m) k)) w'):wpList Tryz.prog ops Q (o::rest) a w:=by
 refine wpList_plain hgd fun K hK=> ?_
 obtain⟨q,k,w',hrun,h2,h3,h5⟩:=run_appM hE (w:=w) o.type hown hm hs h1 hl hb (c:=c)
 unfold Oper.wp execOp
 simp only[ho,resolve,invoke,builtin,dP,dX,dx,dG,bX,dY,hv,hx,hrun]
 exact hK _ _ (h q k w' h2 h3 h5)
theorem zR {w:World} {n:Nat} {ops:Array Oper} {rest:List Oper} {o:Oper} {a:Act} {Q:Exit→Act→World→Prop} (hgd:o.guard=none) (sl x:Operand)
 (ho:o.op= .call {callee:=.builtin .append,args:=#[sl,x],argTypes:=#[79,3]}) (hv:a.eval sl= .slice none 0 0) (hx:a.eval x= .int .i64 n) (h0:0<n) (hn:n≤70000)
 (h: ∀g k w',n≤k→k≤maxLen→w'.ownsRow w.heap.size 49 2 (.slice (some ⟨g,0,none⟩) 0 k) 0 []→Below w.heap.size w w'→wpList Tryz.prog ops Q rest (a.put o.dst (.slice (some ⟨g,0,none⟩) n k)) w'):wpList Tryz.prog ops Q (o::rest) a w:=by
 refine wpList_plain hgd fun K hK=> ?_
 obtain⟨i0,hi,hz0,hz1,hz2⟩:=info_parts sH.info
 have hrun:=Go.Lib.run_append_nil_zeros (P:=Tryz.prog) w 79 3 o.type 49 i0 _ .i64 .i64 gP bg hi hz0 n h0 om om (by rw[hz2];omega)
 unfold Oper.wp execOp
 simp only[ho,resolve,invoke,builtin,dP,dX,dx,dG,bX,dY,hv,hx,hrun]
 have hge:=grownCap_ge w n 0 49
 have hle:=grownCap_le_maxLen w n 0 49 (by unfold maxLen;omega)
 obtain⟨cur,hcur⟩: ∃cur,cur=Builtin.zeroCells (Value.agg #[.int .i64 0,.int .i64 0]).cells n++Builtin.zeroCells (Value.agg #[.int .i64 0,.int .i64 0]).cells (grownCap w n 0 49-n):=⟨_,rfl⟩
 rw[←hcur]
 have hsz:cur.size=grownCap w n 0 49*2:=by
  have hz: ∀j,(Builtin.zeroCells (Value.agg #[.int .i64 0,.int .i64 0]).cells j).size=j*2:=fun j=>by
   simp[Builtin.zeroCells,Value.cells]
  rw[hcur,Array.size_append,hz,hz]
  omega
 have hown:(w.drew.alloc (.cells cur 49)).ownsRow w.heap.size 49 2 (.slice (some ⟨w.heap.size,0,none⟩) 0 (grownCap w n 0 49)) 0 []:=
  ⟨rfl,.inr ⟨w.heap.size,_,cur,rfl,aI _,gW w.drew _,aO _,hle,hsz,sI⟩⟩
 exact hK _ _ (h _ _ _ hge hle hown ((aJ _ _).drew.alloc sI _))
theorem dgrow_ok (n:Nat) (w:World) (hn:n≤70000):
 Calls Tryz.prog 234 #[.slice none 0 0,.int .i64 n] w fun r w'=>∃q k,r= .returned (.slice q 0 k)∧w'.ownsRow w.heap.size 49 2 (.slice q 0 k) 0 []∧Below w.heap.size w w':=by
 have hw0:IntKind.i64.wrap ((n:Int)-0)=(n:Int):=by rw[aP _ om];omega
 have hw1:IntKind.i64.wrap (n:Int)=(n:Int):=aP _ om
 by_cases h0:n=0
 ·subst h0
  go_enter Tryz.func234,Tryz.ntmps234
  go_wp2
  go_ret
  exact⟨none,0,rfl,aR _ _ _ _,aJ _ _⟩
 ·have d0:decide ((0:Int)<(n:Int))=true:=decide_eq_true om
  have d1:decide (0<n)=true:=decide_eq_true om
  have dn: ¬((n:Int)<0):=om
  go_enter Tryz.func234,Tryz.ntmps234
  go_wp2_with (first|(at_builtin;refine zR (n:=n) rf (.tmp 20) (.tmp 21) rf rf rf om hn ?_;intro g k w1 hk1 hk2 hown hb))
  have HO:=ah hown
  unfold maxLen at hk2
  clear hown
  go_wp2
  go_ret
  exact⟨_,_,rfl,HO.out,hb⟩
section
variable {X Y S F G:List Nat} {B:Nat} {ev:Nat→Addr} {w w' w0 w1:World} {pd pc pz gh e:Nat} {mn lw hi:Int} {O:List (List Int)} {v vp:Value} {A:SA} {V:HV} {U:List Value} {d d':De} {c c':Ca}
theorem j5.srcO {q:Option Addr} {n k:Nat} {l:List Ob} (h:j5 X w (.slice q n k) l):n=l.length∧rY w q (jc l):=by
 obtain⟨p,cap,h1,h2,h3,h4⟩:=h
 injection h1 with e1 e2 e3
 subst e1 e2 e3
 refine⟨rfl,?_⟩
 cases l with
 |nil=>
  cases q with
  |none=>exact .inl ⟨rfl,rfl⟩
  |some a=>exact .inr ⟨a,rfl,fun j u hj=>by simp[jc] at hj⟩
 |cons b r=>
  obtain⟨g,off,t,_⟩:=h4 0 b.1 b.2 rfl
  subst t
  refine .inr ⟨_,rfl,wI fun j a k hj=> ?_⟩
  obtain⟨g',off',t,_,_,c0,c1⟩:=h4 j a k hj
  injection t with t;injection t with t1 t2
  subst t1 t2
  exact⟨c0,c1⟩
theorem yg {P:List (List Ob)} (h: ∀m∈P,m.length=4):P.flatten.length=4*P.length:=by
 induction P with
 |nil=>rfl
 |cons a P ih=>
  simp only[List.flatten_cons,aU,dw,ih fun m hm=>h m (ak _ hm),h a sI]
  omega
theorem vO {P:List (List Ob)} {i:Nat} {m:List Ob} (h:P[i]?=some m):(P.take (i+1)).flatten=(P.take i).flatten++m:=by
 rw[bH,h];simp
theorem Dt (h:CD B w X pd pc pz gh mn lw hi O e v A V vp U d) (hI:jY e d):
 Calls Tryz.prog 153 #[vp] w fun r w'=>∃q k,r= .returned (.slice q d.P.flatten.length k)∧w'.ownsRow w.heap.size 49 2 (.slice q d.P.flatten.length k) d.P.flatten.length (jc d.P.flatten)∧Below w.heap.size w w':=by
 obtain⟨qp,kp,rfl,kp1,kp2,hrow⟩:=h.de.pile
 have hlen:=ji hI
 have few:=jy hI.c
 have HP4:Hid (∀m∈d.P,m.length=4):=hI.p4
 have rR:=ah hrow
 obtain⟨N,hN⟩: ∃N,N=d.P.length:=⟨_,rfl⟩
 have EN:=ah hN
 have HFL:Hid (d.P.flatten.length=4*N):=by show _=_;rw[hN];exact yg hI.p4
 have HTL:Hid (∀i,i≤N→(d.P.take i).flatten.length=4*i):=fun i hi=>by
  rw[yg (fun m hm=>hI.p4 m (d9 hm)),aQ,←hN]
  congr 1;omega
 have ALL:Hid (d.P.take N=d.P):=by show _=_;rw[hN];simp
 rw[←hN] at kp1 hlen ⊢
 rw[HFL.out]
 have N4:4*N≤65536:=om
 unfold maxLen at kp2
 clear h hI hrow hN hlen few
 go_enter Tryz.func153,Tryz.ntmps153
 go_wp2_with fail
 go_loopw [3,11] (fun sv iv wr=>∃i:Nat,i≤N∧sv= .int .i64 ((4*i:Nat):Int)∧iv= .int .i64 i∧Below w.heap.size w wr) (fun _ iv _=>N-(intOf iv).toNat)
 case atStart=>exact⟨0,aO _,rfl,by go_num,aJ _ _⟩
 case round=>
  obtain⟨i,hi,rfl,rfl,hbel⟩:=hrel
  by_cases hlt:i<N
  ·obtain⟨m,hm⟩: ∃m,d.P[i]?=some m:=⟨d.P[i]'(by rw[←EN.out];exact hlt),au _⟩
   obtain⟨g,p,c,rfl,hg,hc0,_⟩:=rR.out i m hm
   have hm4:=HP4.out m (aB hm)
   rw[hm4] at hc0
   have ck:=(hbel.cell (p:=⟨g,i,none⟩) hg).trans hc0
   have gl:g<wr.heap.size:=aF hg hbel.size
   have hw:IntKind.i64.wrap (((4*i:Nat):Int)+4)=((4*(i+1):Nat):Int):=by rw[aP _ om];omega
   have hw':IntKind.i64.wrap (((4*i:Nat):Int)+((4:Nat):Int))=((4*(i+1):Nat):Int):=by rw[aP _ om];omega
   have hnn: ¬(((4*(i+1):Nat):Int)<0):=om
   have d0:decide (((4*(i+1):Nat):Int)<0)=false:=decide_eq_false hnn
   obtain⟨z,hz⟩: ∃z:Int,z=((4*i:Nat):Int):=⟨_,rfl⟩
   obtain⟨z2,hz2⟩: ∃z:Int,z=((4*(i+1):Nat):Int):=⟨_,rfl⟩
   rw[←hz,←hz2] at hw hw'
   rw[←hz2] at hnn d0
   rw[←hz]
   have HZ2:=ah hz2
   have hik:i<kp:=om
   clear hm hc0 hz hz2 hm4
   go_wp2
   go_round
   case rel=>exact⟨i+1,om,by rw[←HZ2.out],by go_num,hbel⟩
   case measure=>simp[intOf];omega
  ·obtain rfl:i=N:=by omega
   have GR:=ah (dgrow_ok (4*i) wr om)
   have HB:=ah hbel
   obtain⟨n4,hn4⟩: ∃n4,n4=4*i:=⟨_,rfl⟩
   have HN4:=ah hn4
   rw[←hn4] at GR ⊢
   clear hbel hlt hn4
   go_wp2_with fail
   refine GR.out.mono ?_
   rintro r w2 ⟨q,k,rfl,hown,hb2⟩
   have HO2:=ah hown
   have HB2:=ah (HB.out.trans (hb2.mono HB.out.size))
   have zr:=HB.out.size
   have z2:=hb2.size
   clear GR hown hb2
   go_wp2_with fail
   obtain⟨wq,ewq⟩: ∃x,x=wr:=⟨_,rfl⟩
   subst ewq
   go_loopw [6,27] (fun lv iv ws=>∃(j:Nat) (q:Option Addr) (k:Nat),j≤i∧iv= .int .i64 j∧lv= .slice q (4*j) k∧Hid (ws.ownsRow wq.heap.size 49 2 (.slice q (4*j) k) (4*j) (jc (d.P.take j).flatten))∧Below w.heap.size w ws∧wq.heap.size≤ws.heap.size) (fun _ iv _=>i-(intOf iv).toNat)
   case atStart=>exact⟨0,q,k,aO _,by go_num,rfl,HO2.out,HB2.out,z2⟩
   case round=>
    obtain⟨j,q,k,hj,rfl,rfl,HO,hbel,hsz⟩:=hrel
    by_cases hlt:j<i
    ·obtain⟨m,hm⟩: ∃m,d.P[j]?=some m:=⟨d.P[j]'(by rw[←EN.out];exact hlt),au _⟩
     obtain⟨g,p,c,rfl,hg,hc0,hro⟩:=rR.out j m hm
     have hm4:=HP4.out m (aB hm)
     obtain⟨_,hsr⟩:=(hro.below hbel).srcO
     have HSR:=ah hsr
     rw[hm4] at hc0
     have ck:=(hbel.cell (p:=⟨g,j,none⟩) hg).trans hc0
     have gl:g<wr.heap.size:=aF hg hbel.size
     have hjk:j<kp:=om
     have EL:Hid ((jc m).length=4*2):=by show _=_;rw[j6,hm4]
     have SN:Hid (jc (d.P.take (j+1)).flatten=jc (d.P.take j).flatten++jc m):=by show _=_;rw[vO hm,kE]
     have HB:=ah hbel
     clear hm hc0 hro hsr hm4 hbel
     go_wp2_with (first|(at_builtin;refine kS sH (base:=wq.heap.size) (v:=.slice q (4*j) k) (n:=4*j) (m:=4) (ms:=jc m) rf (.tmp 31) (.tmp 32) rf rf rf HO.out EL.out HSR.out (mZ m) om hsz ?_;intro q4 k4 w4 iK hg4 yu))
     have hb4:Below w.heap.size w w4:=HB.out.grown hg4 HB.out.size (fun r hr=>bN zr (HO.out.lt r hr).1)
     have HO4:=ah iK
     have hs4:wq.heap.size≤w4.heap.size:=bN hsz hg4.size
     clear iK hg4 yu
     go_wp2
     go_round
     case rel=>exact⟨j+1,q4,k4,om,by go_num,rfl,(show World.ownsRow _ _ _ _ _ _ _ from by rw[SN.out];exact HO4.out),hb4,hs4⟩
     case measure=>simp[intOf];omega
    ·obtain rfl:j=i:=by omega
     have HO':=HO.out
     rw[ALL.out] at HO'
     have HOO:Hid (wr.ownsRow w.heap.size 49 2 (.slice q n4 k) n4 (jc d.P.flatten)):=by
      show World.ownsRow _ _ _ _ _ _ _
      rw[HN4.out]
      exact HO'.mono zr
     rw[←HN4.out]
     clear HO HO'
     go_wp2
     go_ret
     refine⟨q,k,by rw[←HN4.out];rfl,?_,hbel⟩
     have t:=HOO.out
     rw[HN4.out] at t
     exact t
end
end
section
open Go.RowKit Go.Maps
attribute [local go_sem ↓] aW aX
section
variable {X Y S F G:List Nat} {B:Nat} {ev:Nat→Addr} {w w' w0 w1:World} {pd pc pz gh e:Nat} {mn lw hi:Int} {O:List (List Int)} {v vp:Value} {A:SA} {V:HV} {U:List Value} {d d':De} {c c':Ca}
theorem CD.gave (h:CD B w X pd pc pz gh mn lw hi O e v A V vp U d) (hc:CS B w' pc pz mn lw hi O e X v A c') (k:Keep (cay pc v A) w w') (hL:c'.L=d.c.L):CD B w' X pd pc pz gh mn lw hi O e v A V vp U ⟨c',d.H,d.P⟩:=
 ⟨by have:=h.x;rw[←hL] at this;exact this,h.limK k,hc,h.de.keep k (fun s q=>⟨fun t=>(h.ne s t).1 q,.inl (h.cs.ch.mem s q)⟩),by have:=h.ne;rw[←hL] at this;exact this⟩
theorem xq {l:List Ob} {i:Nat} {o:Ob} (h:l[i]?=some o):jd e c (l.take (i+1))=(lJ e (jd e c (l.take i)) o).1:=by
 have e:l.take (i+1)=l.take i++[o]:=by rw[bH,h];rfl
 rw[e,rC];rfl
theorem find_of {o:Ob} (hI:l8 e c) (ho:o∈jQ e c.C): ∃i,qH e o c.C=some i:=by
 cases q:qH e o c.C with
 |some i=>exact⟨i,rfl⟩
 |none=>
  have:=give_has hI ho
  unfold lJ at this
  rw[q] at this
  simp at this
theorem not_take {l:List Ob} (h:l.Nodup) {i:Nat} {o:Ob} (ho:l[i]?=some o):o∉l.take i:=fun q=>by
 obtain⟨j,hj,hg⟩:=fT.1 q
 have hj':j<i:=by rw[aQ] at hj;omega
 rw[List.getElem_take] at hg
 obtain⟨hil,hie⟩:=aj.1 ho
 have:=bT.1 h j i om hil hj'
 rw[hg,hie] at this
 exact this rfl
theorem yh {q:Option Addr} {n k:Nat} {l:List Ob} (h:CD B w X pd pc pz gh mn lw hi O e v A V vp U d) (hI:l8 e d.c) (hl:j5 X w (.slice q n k) l) (h16:l.length≤65536) (hs: ∀o∈l,o∈jQ e d.c.C) (hnd:l.Nodup):
 Calls Tryz.prog 151 #[.pointer (some ⟨pd,0,none⟩),.slice q n k] w fun r w'=>r= .returned (.int .i64 n)∧CD B w' X pd pc pz gh mn lw hi O e v A V vp U ⟨jd e d.c l,d.H,d.P⟩∧Keep (cay pc v A) w w':=by
 obtain⟨p',cap',e1,nk,km,hrow⟩:=id hl
 obtain⟨rfl,en,rfl⟩:=dM e1
 have EN:=ah en
 rw[←en] at h16 nk
 have HS:=ah hs;have HND:=ah hnd;have HL:=ah hl;have HIN:=ah hI
 have CM:Hid (∀s∈cay pc v A,s∈X∨w.heap.size≤s):=fun s q=>.inl (h.cs.ch.mem s q)
 have START:Hid (CD B w X pd pc pz gh mn lw hi O e v A V vp U ⟨jd e d.c (l.take 0),d.H,d.P⟩):=h
 have ALL:Hid (l.take n=l):=by show _=_;rw[en];simp
 unfold maxLen at km
 clear h hI hl hs hnd hrow e1 en
 go_enter Tryz.func151,Tryz.ntmps151
 go_wp2_with fail
 go_loopw [9] (fun iv wr=>∃i:Nat,i≤n∧iv= .int .i64 i∧Hid (CD B wr X pd pc pz gh mn lw hi O e v A V vp U ⟨jd e d.c (l.take i),d.H,d.P⟩)∧Hid (Keep (cay pc v A) w wr)) (fun iv _=>n-(intOf iv).toNat)
 case atStart=>exact⟨0,aO _,by go_num,START,Keep.refl _ _⟩
 case round=>
  obtain⟨i,hin,rfl,HCD,HK⟩:=hrel
  by_cases hlt:i<n
  ·obtain⟨o,ho⟩: ∃o,l[i]?=some o:=⟨l[i]'(by rw[←EN.out];exact hlt),au _⟩
   obtain⟨g,off,eg,_,gl,y0,y1⟩:=(HL.out.keep HK.out CM.out).at ho
   subst eg
   obtain⟨i1,_,i3⟩:=jL (l:=l.take i) HIN.out
   have hob:=(i3 o).2 ⟨HS.out o (aB ho),not_take HND.out ho⟩
   have fit:=ob_one i1 hob
   obtain⟨fi,hf⟩:=find_of i1 hob
   have GV:Hid (∀W,Below wr.heap.size wr W→Calls Tryz.prog 25 #[.pointer (some ⟨pc,0,none⟩),.agg #[.int .i64 o.1,.int .i64 o.2]] W fun r w'=>r= .returned .nilIface∧CD B w' X pd pc pz gh mn lw hi O e v A V vp U ⟨jd e d.c (l.take (i+1)),d.H,d.P⟩∧Keep (cay pc v A) w w'):=fun W hW=>
    (FH o.1 o.2 (HCD.out.cs.below hW) i1 (by have:=fit.1;omega) (by have:=fit.2.1;omega) hf).mono fun r w' ⟨hr,hc,hk⟩=>⟨hr,by rw[xq ho];exact(HCD.out.below hW).gave hc hk (wR _ _ _),(HK.out.step hW).then hk⟩
   have DC:=HCD.out.de.d
   have c0:=DC.c 0 _ rfl;have cl:=DC.lt
   have hli:(i:Int)<(n:Int):=om
   have hl0:(0:Int)≤(i:Int):=om
   clear ho hob fit hf i1 i3 DC
   go_wp2_with fail
   refine jR 5 kR kR ?_
   simp only[aV,bB,aS,bq]
   repeat still_step
   refine wpStill_nil ?_
   go_wp2_with fail
   refine(GV.out _ iB).mono ?_
   rintro r w5 ⟨rfl,hcd5,hk5⟩
   have HCD5:=ah hcd5;have HK5:=ah hk5
   clear hcd5 hk5 GV y0 y1 c0 cl
   go_wp2
   go_roundw
   case rel=>exact⟨i+1,om,by go_num,HCD5,HK5⟩
   case measure=>simp[intOf];omega
  ·obtain rfl:i=n:=by omega
   have GH:=HCD.out
   rw[ALL.out] at GH
   have HC:=ah GH
   clear HCD GH
   go_wp2
   go_ret
   exact⟨rfl,HC.out,HK.out⟩
def vQ (B:Nat) (ev:Nat→Addr) (pd pc pz gh:Nat) (mn lw hi:Int) (O:List (List Int)) (e:Nat) (X F:List Nat) (w:World) (r:De×Nat×Nat) (en:Ending) (w':World):Prop:=
 en= .returned (.tuple #[.int .i64 r.2.2,jB ev r.2.1])∧CDx B w' X F pd pc pz gh mn lw hi O e r.1∧Keep (off X F) w w'
theorem Du (k:Int) (hE:qM B ev w) (h:CD B w X pd pc pz gh mn lw hi O e v A V vp U d) (hF:Hid (∀f∈F,f∈X∧f∉xd pc v A d.c.L pd gh vp)) (hk:jI d k=none):
 Calls Tryz.prog 41 #[.pointer (some ⟨pd,0,none⟩),.int .i64 k] w (vQ B ev pd pc pz gh mn lw hi O e X F w (jg e d k)):=by
 have ed:jg e d k=(d,2,0):=by unfold jg;rw[hk]
 rw[ed]
 have NO:=ah (vG hE.c h k (nZ hk))
 have e1:jB ev 2= .iface 434 (.pointer (some (ev 2))):=rfl
 have FIN:Hid (∀W,Below w.heap.size w W→vQ B ev pd pc pz gh mn lw hi O e X F w (d,2,0) (.returned (.tuple #[.int .i64 0,.iface 434 (.pointer (some (ev 2)))])) W):=fun W b=>⟨rfl,⟨_,_,_,_,_,h.below b,hF.out⟩,Keep.of b⟩
 rw[e1] at NO
 clear h hk hE e1 ed
 go_enter Tryz.func41,Tryz.ntmps41
 go_wp2_with fail
 refine NO.out.mono ?_
 rintro r w1 ⟨rfl,hb1⟩
 go_wp2
 go_ret2
 exact FIN.out _ hb1
theorem Dv (k:Nat) (h:CD B w X pd pc pz gh mn lw hi O e v A V vp U d) (hF:Hid (∀f∈F,f∈X∧f∉xd pc v A d.c.L pd gh vp)) (hI:jY e d) {l1 l2:List Ob} (hk:d.H[k]?=some (l1,l2)):
 Calls Tryz.prog 41 #[.pointer (some ⟨pd,0,none⟩),.int .i64 k] w (vQ B ev pd pc pz gh mn lw hi O e X F w (jg e d k)):=by
 have hkl:=(aj.1 hk).1
 have ed:jg e d k=(⟨jd e d.c (l1++l2),d.H.set k ([],[]),d.P⟩,0,(l1++l2).length):=by unfold jg;rw[jo hk];simp
 rw[ed]
 obtain⟨p,hp,o1,o2,g0,g1,f0,f1,gl⟩:=h.hand hk
 obtain⟨⟨pa,pb⟩,rfl⟩: ∃q,q=p:=⟨_,rfl⟩
 obtain⟨qa,ca,e1,_,_⟩:=o1.isSlice
 obtain⟨qb,cb,e2,_,_⟩:=o2.isSlice
 simp only at e1 e2 g0 g1 hp
 subst e1 e2
 have h4:=hI.h4 _ (aB hk)
 have hcnt: ∀a,l1.count a+l2.count a≤(held d).count a:=fun a=>by
  rw[lV]
  have:=Cb a hk
  simp only at this
  omega
 have hsub: ∀o,0<l1.count o+l2.count o→o∈jQ e d.c.C:=fun o q=>(hI.cnt o).2 (by have:=hcnt o;omega)
 have s1: ∀o∈l1,o∈jQ e d.c.C:=fun o q=>hsub o (by have:=dh.2 q;omega)
 have nd1:l1.Nodup:=fu.2 fun a=>by have:=hcnt a;have:=(hI.cnt a).1;omega
 have nd2:l2.Nodup:=fu.2 fun a=>by have:=hcnt a;have:=(hI.cnt a).1;omega
 obtain⟨i1,iL,i3⟩:=jL (l:=l1) hI.c
 have s2: ∀o∈l2,o∈jQ e (jd e d.c l1).C:=fun o q=>(i3 o).2 ⟨hsub o (by have:=dh.2 q;omega),fun r=>by
  have a1:=dh.2 q;have a2:=dh.2 r;have:=hcnt o;have:=(hI.cnt o).1;omega⟩
 have HD:=ah (lW h k hkl)
 have cm: ∀s∈cay pc v A,s∈X∨w.heap.size≤s:=fun s q=>.inl (h.cs.ch.mem s q)
 have ng:gh∉cay pc v A:=(h.ne gh h.jm).1
 have BK1:Hid (∀W,Below w.heap.size w W→Calls Tryz.prog 151 #[.pointer (some ⟨pd,0,none⟩),.slice qa l1.length ca] W fun r w'=>r= .returned (.int .i64 l1.length)∧CD B w' X pd pc pz gh mn lw hi O e v A V vp U ⟨jd e d.c l1,d.H,d.P⟩∧Keep (cay pc v A) w w'):=fun W hW=>
  (yh (h.below hW) hI.c (o1.below hW) (by have:=h4.1;simp only at this;omega) s1 nd1).mono fun r w' ⟨a,b,c⟩=>⟨a,b,(Keep.of hW).then c⟩
 have BK2:Hid (∀wb W,CD B wb X pd pc pz gh mn lw hi O e v A V vp U ⟨jd e d.c l1,d.H,d.P⟩→Keep (cay pc v A) w wb→Below wb.heap.size wb W→Calls Tryz.prog 151 #[.pointer (some ⟨pd,0,none⟩),.slice qb l2.length cb] W fun r w'=>r= .returned (.int .i64 l2.length)∧CD B w' X pd pc pz gh mn lw hi O e v A V vp U ⟨jd e d.c (l1++l2),d.H,d.P⟩∧Keep (cay pc v A) w w'):=fun wb W hc hkb hW=>
  (yh (hc.below hW) i1 ((o2.keep hkb cm).below hW) (by have:=h4.2;simp only at this;omega) s2 nd2).mono fun r w' ⟨a,b,c⟩=>⟨a,by rw[rC];exact b,(hkb.step hW).then c⟩
 have KC:Hid (∀w',Keep (cay pc v A) w w'→w'.cell? ⟨gh,k*2,none⟩=some (.slice qa l1.length ca)∧w'.cell? ⟨gh,k*2+1,none⟩=some (.slice qb l2.length cb)∧w'.frozen? ⟨gh,k*2,none⟩=false∧w'.frozen? ⟨gh,k*2+1,none⟩=false∧gh<w'.heap.size):=fun w' kk=>
  ⟨(kk.cell gl ng).trans g0,(kk.cell gl ng).trans g1,(kk.frozen gl ng).trans f0,(kk.frozen gl ng).trans f1,aF gl kk.size⟩
 have HLH:=ah h.de.hs
 have VL:Hid (V[k]?=some (.slice qa l1.length ca,.slice qb l2.length cb)):=hp
 have FIN:Hid (∀wc W,CD B wc X pd pc pz gh mn lw hi O e v A V vp U ⟨jd e d.c (l1++l2),d.H,d.P⟩→Keep (cay pc v A) w wc→W=(wc.setCell ⟨gh,k*2,none⟩ (.slice none 0 0)).setCell ⟨gh,k*2+1,none⟩ (.slice none 0 0)→
  vQ B ev pd pc pz gh mn lw hi O e X F w (⟨jd e d.c (l1++l2),d.H.set k ([],[]),d.P⟩,0,(l1++l2).length) (.returned (.tuple #[.int .i64 ((l1.length:Int)+(l2.length:Int)),.nilIface])) W):=fun wc W hc hkc hW=>by
  have a1:=vH hc.de.hs hp (.slice none 0 0)
  have a2:=hloc2 a1 (sJ (by rw[h.de.hl];exact hkl) _) (.slice none 0 0)
  rw[zH] at a2
  simp only at a2
  rw[←hW] at a2
  have kk:Keep [gh] wc W:=by rw[hW];exact((Keep.refl _ _).setCell (p:=⟨gh,k*2,none⟩) (.inl sI) _).setCell (p:=⟨gh,k*2+1,none⟩) (.inl sI) _
  have hcd:=hc.oF k (p':=(.slice none 0 0,.slice none 0 0)) (h':=([],[])) hkl (j5.nil X wc) (j5.nil X wc) kk a2
  refine⟨by simp[jB],⟨_,_,_,_,_,hcd,?_⟩,?_⟩
  ·have hL:(jd e d.c (l1++l2)).L=d.c.L:=(jL (l:=l1++l2) hI.c).2.1
   show∀f∈F,f∈X∧f∉xd pc v A (jd e d.c (l1++l2)).L pd gh vp
   rw[hL];exact hF.out
  ·have k1:=hkc.mono (S':=off X F) (fun s q=>h.offd hF.out (aA _ (av _ q)))
   exact k1.trans kk (fun s q=>by simp at q;subst q;exact .inl (h.G9 hF.out h.jm))
 have n1:l1.length≤4:=h4.1
 have n2:l2.length≤4:=h4.2
 obtain⟨m1,hm1⟩: ∃m,m=l1.length:=⟨_,rfl⟩
 obtain⟨m2,hm2⟩: ∃m,m=l2.length:=⟨_,rfl⟩
 rw[←hm1] at BK1 KC FIN n1 g0
 rw[←hm2] at BK2 KC FIN n2 g1
 have hw1:IntKind.i64.wrap ((m1:Int)+(m2:Int))=(m1:Int)+(m2:Int):=aP _ om
 clear h hI hk ed hp o1 o2 h4 hcnt hsub s1 s2 nd1 nd2 i1 iL i3 cm hm1 hm2 f0 f1
 go_enter Tryz.func41,Tryz.ntmps41
 go_wp2_with fail
 refine HD.out.mono ?_
 rintro r' w1 ⟨rfl,rfl⟩
 clear HD
 go_wp2_with fail
 go_region_held3 (fun w'=>w'.cell? ⟨gh,k*2,none⟩=some (.slice qa m1 ca)∧w'.cell? ⟨gh,k*2+1,none⟩=some (.slice qb m2 cb)) (go_keep) (first
  |(go_at_call_of 151 (Value.slice qa m1 ca);refine(BK1.out _ iB).mono ?_;rintro e' wb ⟨rfl,cdb,kb⟩;have x0:=(KC.out _ kb).1;have x1:=(KC.out _ kb).2.1)
  |(go_at_call_of 151 (Value.slice qb m2 cb);refine(BK2.out _ _ cdb kb iB).mono ?_;rintro e' wc ⟨rfl,cdc,kc⟩;have y0:=(KC.out _ kc).1;have y1:=(KC.out _ kc).2.1))
 have HCC:=ah cdc;have HKC:=ah kc
 obtain⟨z0,z1,zf0,zf1,zl⟩:=KC.out _ kc
 clear cdc kc cdb kb
 go_wp2
 go_ret2
 exact FIN.out _ _ HCC.out HKC.out rfl
theorem Dw (k:Int) (hE:qM B ev w) (h:CD B w X pd pc pz gh mn lw hi O e v A V vp U d) (hF:Hid (∀f∈F,f∈X∧f∉xd pc v A d.c.L pd gh vp)) (hI:jY e d):
 Calls Tryz.prog 41 #[.pointer (some ⟨pd,0,none⟩),.int .i64 k] w (vQ B ev pd pc pz gh mn lw hi O e X F w (jg e d k)):=by
 cases hh:jI d k with
 |none=>exact Du k hE h hF hh
 |some g=>
  obtain⟨k0,h1,h2,h3⟩:=jP hh
  obtain⟨kn,hkn⟩: ∃kn,kn=k.toNat:=⟨_,rfl⟩
  rw[←hkn] at h1 h3
  subst h3
  exact Dv kn h hF hI h1
theorem CD.dropPile (h:CD B w X pd pc pz gh mn lw hi O e v A V vp U d) (kk:Keep [pd] w w') (hd:iy w' pd [.pointer (some ⟨pc,0,none⟩),.slice (some ⟨gh,0,none⟩) d.H.length d.H.length,.slice none 0 0]):
 CD B w' X pd pc pz gh mn lw hi O e v A V (.slice none 0 0) [] ⟨d.c,d.H,[]⟩:=by
 obtain⟨n0,nn⟩:=aZ.1 h.de.nd
 have hpg:gh≠pd:=fun q=>n0 (q▸aD ..)
 have fg:=h.far pd h.mU
 have hs: ∀s∈[pd],s∈X∨w.heap.size≤s:=fun s q=>by simp at q;subst q;exact .inl fg.1
 have ed:day pd gh (.slice none 0 0)=[pd,gh]:=rfl
 have sd: ∀y∈day pd gh (.slice none 0 0),y∈day pd gh vp:=fun y hy=>by
  rw[ed] at hy
  simp at hy
  rcases hy with rfl|rfl
  ·exact h.mU
  ·exact h.jm
 refine⟨fun y hy=> ?_,h.limK kk,h.cs.z.keep kk (fun s q=>by simp at q;subst q;exact .inl ⟨fg.1,fg.2.2⟩) |> fun z=>⟨z,h.cs.ch.keep kk (fun s q=>by simp at q;subst q;exact fg.2.1),h.cs.ne,h.cs.l0⟩,?_,fun y hy=>h.ne y (sd y hy)⟩
 ·rcases aG.1 hy with q|q
  ·exact h.x y (av _ (sd y q))
  ·exact h.x y (aA _ q)
 refine⟨hd,h.de.hs.keep kk (by simpa using hpg),h.de.hl,fun i p g hp hg'=>⟨(h.de.ho i p g hp hg').1.keep kk hs,(h.de.ho i p g hp hg').2.keep kk hs⟩,⟨rfl,.inl ⟨rfl,rfl⟩⟩,rfl,fun i u m hu hm=>by simp at hu,fun y hy=>h.de.mem y (sd y hy),by rw[ed];simpa using fun q=>hpg q.symm,fun y hy=> ?_⟩
 exact⟨(h.de.lim y (sd y hy)).1,aF (h.de.lim y (sd y hy)).2 kk.size⟩
theorem GI (hB:B≤w.heap.size) (h:CD B w X pd pc pz gh mn lw hi O e v A V vp U d) (hF:Hid (∀f∈F,f∈X∧f∉xd pc v A d.c.L pd gh vp)) (hI:jY e d):
 Calls Tryz.prog 44 #[.pointer (some ⟨pd,0,none⟩)] w fun r w'=>r= .returned (.int .i64 (kL e d).2)∧CDx B w' X F pd pc pz gh mn lw hi O e (kL e d).1∧Keep (off X F) w w':=by
 have CC:=ah (Dt h hI)
 have hcnt: ∀a,d.P.flatten.count a≤(held d).count a:=fun a=>by rw[lV];omega
 have hsub: ∀o∈d.P.flatten,o∈jQ e d.c.C:=fun o q=>(hI.cnt o).2 (by have:=hcnt o;have:=dh.2 q;omega)
 have hnd:d.P.flatten.Nodup:=fu.2 fun a=>by have:=hcnt a;have:=(hI.cnt a).1;omega
 have h16:d.P.flatten.length≤65536:=bN (vD hnd hsub) (jy hI.c)
 have emp:kL e d=(⟨jd e d.c d.P.flatten,d.H,[]⟩,d.P.flatten.length):=rfl
 rw[emp]
 obtain⟨FL,hFL⟩: ∃l,l=d.P.flatten:=⟨_,rfl⟩
 rw[←hFL] at CC hsub hnd h16 ⊢
 have BK:Hid (∀W q k,Below w.heap.size w W→W.ownsRow w.heap.size 49 2 (.slice q FL.length k) FL.length (jc FL)→Calls Tryz.prog 151 #[.pointer (some ⟨pd,0,none⟩),.slice q FL.length k] W fun r w'=>r= .returned (.int .i64 FL.length)∧CD B w' X pd pc pz gh mn lw hi O e v A V vp U ⟨jd e d.c FL,d.H,d.P⟩∧Keep (cay pc v A) w w'):=fun W q k hW hown=>
  (yh (h.below hW) hI.c (nG hown (fun g hg r=>by have:=(hown.lt g hg).1;have:=(h.lim g r).2;omega)) h16 hsub hnd).mono fun r w' ⟨a,b,c⟩=>⟨a,b,(Keep.of hW).then c⟩
 have c0:=h.de.d.c 0 _ rfl;have c1:=h.de.d.c 1 _ rfl;have c2:=h.de.d.c 2 _ rfl;have cl:=h.de.d.lt
 obtain⟨qp,kp,evp,_⟩:=h.de.pile
 have np:pd∉cay pc v A:=(h.ne pd h.mU).1
 have FIN:Hid (∀wc W,CD B wc X pd pc pz gh mn lw hi O e v A V vp U ⟨jd e d.c FL,d.H,d.P⟩→Keep (cay pc v A) w wc→W=wc.setCell ⟨pd,2,none⟩ (.slice none 0 0)→
  CDx B W X F pd pc pz gh mn lw hi O e ⟨jd e d.c FL,d.H,[]⟩∧Keep (off X F) w W):=fun wc W hc hkc hW=>by
  have a1:=hc.de.d.store 2 (.slice none 0 0) sI
  rw[←hW] at a1
  have kk:Keep [pd] wc W:=by rw[hW];exact(Keep.refl _ _).setCell (p:=⟨pd,2,none⟩) (.inl sI) _
  refine⟨⟨_,_,_,_,_,hc.dropPile kk a1,fun f hf=> ?_⟩,?_⟩
  ·have hL:(jd e d.c FL).L=d.c.L:=(jL (l:=FL) hI.c).2.1
   have:=h.pushF (vp':=.slice none 0 0) (Y:=X) (fun y hy=>by cases hy) hF.out (fun _ q=>q) f hf
   show f∈X∧f∉xd pc v A (jd e d.c FL).L pd gh (.slice none 0 0)
   rw[hL];exact this
  ·have k1:=hkc.mono (S':=off X F) (fun s q=>h.offd hF.out (aA _ (av _ q)))
   exact k1.trans kk (fun s q=>by simp at q;subst q;exact .inl (h.G9 hF.out h.mU))
 have KD:Hid (∀wc,CD B wc X pd pc pz gh mn lw hi O e v A V vp U ⟨jd e d.c FL,d.H,d.P⟩→wc.cell? ⟨pd,2,none⟩=some vp∧wc.frozen? ⟨pd,2,none⟩=false∧pd<wc.heap.size):=fun wc hc=>⟨hc.de.d.c 2 _ rfl,hc.de.d.f 2 sI,hc.de.d.lt⟩
 obtain⟨N,hN⟩: ∃N,N=FL.length:=⟨_,rfl⟩
 rw[←hN] at CC BK h16 ⊢
 subst evp
 clear h hI hcnt hsub hnd emp hFL hN c0 c1
 go_enter Tryz.func44,Tryz.ntmps44
 go_wp2_with fail
 refine CC.out.mono ?_
 rintro r w1 ⟨q,k,rfl,hown,hb1⟩
 have BK':=ah (BK.out w1 q k hb1 hown)
 clear CC BK hown
 go_wp2_with fail
 refine BK'.out.mono ?_
 rintro r w2 ⟨rfl,hcd,hkk⟩
 obtain⟨z2,zf,zl⟩:=KD.out _ hcd
 have HCD:=ah hcd;have HKK:=ah hkk
 clear BK' hcd hkk KD c2 cl
 go_wp2
 go_ret
 obtain⟨f1,f2⟩:=FIN.out _ _ HCD.out HKK.out rfl
 exact⟨rfl,f1,f2⟩
end
end
end Go.Proofs.YtdcbhlcbiokbeaaGreatDoor
