/- Lemmas. -/
import Derived.Test.YtehhldljdakgeaaGreatDoorQb01
import Derived.Test.YtehhldljdakgeaaGreatDoorQb16
set_option linter.unusedSimpArgs false
set_option linter.unusedVariables false
set_option maxHeartbeats 16000000
set_option maxRecDepth 100000
namespace Go.Proofs.YtehhldljdakgeaaGreatDoor
open Go.RowKit Go.Maps Go.Proofs.Tryz
attribute [local go_sem ↓] aJ aK
section
variable {X Y Z S M M' F F' G:List Nat} {B:Nat} {w w' w0 w1:World} {ev:Nat→Addr} {pd pc pz gh pdm ghm pcm pm gN e:Nat} {mn lw hi:Int} {O:List (List Int)} {v v' vp vp':Value} {A A':SA} {V V':HV} {U U':List Value} {d d' m m':De}
theorem CD.addZ (h:CD B w X pd pc pz gh mn lw hi O e v A V vp U d) (k:Keep S w w1) (hs: ∀s∈S,(s∈X∨w.heap.size≤s)∧s∉xd pc v A d.c.L pd gh vp) (hX: ∀x∈X,x∈Z) (hZ: ∀y∈Z,(y∈X∨w.heap.size≤y)∧y<w1.heap.size) (hB:B≤w.heap.size):CD B w1 Z pd pc pz gh mn lw hi O e v A V vp U d:=by
 have hm: ∀y∈Z,y∈X∨w.heap.size≤y:=fun y hy=>(hZ y hy).1
 have f1: ∀s∈S,s∉day pd gh vp:=fun s q r=>(hs s q).2 (av _ r)
 have f2: ∀s∈S,s∉cay pc v A:=fun s q r=>(hs s q).2 (aj _ (av _ r))
 have f3: ∀s∈S,s∉ys d.c.L:=fun s q r=>(hs s q).2 (aj _ (aj _ r))
 refine⟨fun y hy=>hX y (h.x y hy),fun y hy=>⟨?_,(hZ y hy).2⟩,(h.cs.more hX hm).keep k (fun s q=>⟨f2 s q,(hs s q).1.imp (fun r=>⟨hX _ r,f3 s q⟩) id⟩),(h.de.more hm (fun y hy=>hX y (h.de.mem y hy))).keep k (fun s q=>⟨f1 s q,(hs s q).1.imp (fun r=>hX _ r) id⟩),h.ne⟩;rcases hm y hy with q|q
 ·exact(h.lim y q).1
 ·omega
theorem DpS.addZ (h:DpS B w0 pd pc pz gh mn lw hi O e X F d w) (hB:B≤w.heap.size) (k:Keep S w w1) (hs: ∀s∈S,s∈F) (hX: ∀x∈X,x∈Z) (hZ: ∀y∈Z,(y∈X∨w.heap.size≤y)∧y<w1.heap.size) (hF: ∀f∈F',(f∈F∨w.heap.size≤f)∧f∈Z):DpS B w0 pd pc pz gh mn lw hi O e Z F' d w1:=by
 obtain⟨v,A,V,vp,U,q,hf⟩:=h.cd;refine⟨⟨v,A,V,vp,U,q.addZ k (fun s hs'=>⟨.inl (hf s (hs s hs')).1,(hf s (hs s hs')).2⟩) hX hZ hB,fun f hff=>⟨(hF f hff).2,fun t=> ?_⟩⟩,h.inv,h.bel.trans (k.below hB fun s hs'=>(q.lim s (hf s (hs s hs')).1).1)⟩;rcases(hF f hff).1 with r|r
 ·exact(hf f r).2 t
 ·have:=(q.lim f (q.x f t)).2;omega
structure DZS (w0:World) (X F:List Nat) (pd pc pz gh pdm ghm pcm pm gN e:Nat) (mn lw hi:Int) (O:List (List Int)) (M:List Nat) (v:Value) (A:SA) (V:HV) (vp:Value) (U:List Value) (d m:De) (w:World):Prop where
 s:DpS w0.heap.size w0 pd pc pz gh mn lw hi O e X (rds pdm ghm pcm pm gN A M++F) d w
 r:RD X w pdm ghm pcm pm gN e mn lw hi O M v A V vp U m
 f: ∀f∈F,f∉rds pdm ghm pcm pm gN A M
def DZX (w0:World) (X F:List Nat) (pd pc pz gh pdm ghm pcm pm gN e:Nat) (mn lw hi:Int) (O:List (List Int)) (d m:De) (w:World):Prop:=
 ∃M v A V vp U,DZS w0 X F pd pc pz gh pdm ghm pcm pm gN e mn lw hi O M v A V vp U d m w
theorem DZX.inv (h:DZX w0 X F pd pc pz gh pdm ghm pcm pm gN e mn lw hi O d m w):pU e d:=by
 obtain⟨M,v,A,V,vp,U,q⟩:=h;exact q.s.inv
def DZPost (w0:World) (X F:List Nat) (pd pc pz gh pdm ghm pcm pm gN e:Nat) (mn lw hi:Int) (O:List (List Int)) (d m:De) (w:World) (r:Value) (en:Ending) (w':World):Prop:=
 en= .returned r∧∃X',DZX w0 X' F pd pc pz gh pdm ghm pcm pm gN e mn lw hi O d m w'∧Keep (off X F) w w'∧(∀x∈X',x∈X∨w.heap.size≤x)∧∀x∈X,x∈X'
end
section
variable {X Y S M M' F G:List Nat} {w w' w0:World} {ev:Nat→Addr} {pd gh pc pm gN e:Nat} {mn lw hi:Int} {O:List (List Int)} {v v' vp vp':Value} {A A':SA} {V V':HV} {U U':List Value} {d d':De} {c c':Ca}
theorem Ih (v:Int) (w:World) (n:Nat) (c q vp:Value) (p:Option Addr) (hq:q= .slice p n n) (h:jR w pd [c,q,vp]):
 Calls prog 60 #[.pointer (some ⟨pd,0,none⟩),.int .i64 v] w fun e w'=>e= .returned (.bool (decide (0≤v∧v<n)))∧w'=w:=by
 have c5:=h.gC 1;have cl:=h.lt;subst hq;clear h;by_cases v0:0≤v
 ·by_cases v1:v<n
  ·rw[dQt (show 0≤v∧v<n from⟨v0,v1⟩)]
   have d0:decide (0≤v)=true:=dQt v0;have d1:decide (v<(n:Int))=true:=dQt v1;go_in
   go_wp2;go_ret;exact⟨rfl,rfl⟩
  ·rw[dQf (show¬(0≤v∧v<n) from fun q=>v1 q.2)]
   have d0:decide (0≤v)=true:=dQt v0;have d1:decide (v<(n:Int))=false:=dQf v1;go_in
   go_wp2;go_ret;exact⟨rfl,rfl⟩
 ·rw[dQf (show¬(0≤v∧v<n) from fun q=>v0 q.1)]
  have d0:decide (0≤v)=false:=dQf v0;go_in
  go_wp2;go_ret;exact⟨rfl,rfl⟩
theorem RD.worker (h:RD X w pd gh pc pm gN e mn lw hi O M v A V vp U d) (k:Int):
 Calls prog 60 #[.pointer (some ⟨pd,0,none⟩),.int .i64 k] w fun e w'=>e= .returned (.bool (decide (0≤k∧k<d.H.length)))∧w'=w:=
 Ih k w d.H.length _ _ _ _ rfl h.b.d
theorem Tn (k n:Int) (u:Bool) (h:RD X w pd gh pc pm gN e mn lw hi O M v A V vp U d) (hX: ∀x∈X,x<w.heap.size) (hk:p8 d k=none):
 Calls prog 24 #[.pointer (some ⟨pd,0,none⟩),.int .i64 k,.int .i64 n,.bool u] w (mO X pd gh pc pm gN e mn lw hi O M A w (takeD mn O e d k n u).1 (.tuple #[obV (takeD mn O e d k n u).2.2,.int .i64 (takeD mn O e d k n u).2.1])):=by
 rw[uY hk];have b1:Below w.heap.size w (w.alloc (.cells #[.int .i64 0,.int .i64 0] 40)):=jY;have IW0:=(h.below b1).worker k;rw[dQf (show¬(0≤k∧k<d.H.length) from fun q=>by have:=xD hk;omega)] at IW0;have IW:=ah IW0;have FIN:Hid (∀W,Below w.heap.size w W→mO X pd gh pc pm gN e mn lw hi O M A w d (.tuple #[.agg #[.int .i64 0,.int .i64 0],.int .i64 2]) (.returned (.tuple #[.agg #[.int .i64 0,.int .i64 0],.int .i64 2])) W):=fun W b=>mO.here hX (h.below b) (Keep.of (S:=[]) b) (fun s q=>by cases q)
 have L1:=ah (show jR (w.alloc (.cells #[.int .i64 0,.int .i64 0] 40)) w.heap.size [.int .i64 0,.int .i64 0] from jR.mk_ w [.int .i64 0,.int .i64 0] 40 rfl);clear h hk b1 IW0;go_in
 go_wp2_with fail;refine IW.out.mono ?_;rintro r w1 ⟨rfl,rfl⟩;have HM:=ah (L1.out.lq (.int .i64 0) (.int .i64 0));clear IW;go_wp2;have x0:=HM.out.gC 0;have x1:=HM.out.gC 1;exact bodyPost_ret (v:=.tuple #[.agg #[.int .i64 0,.int .i64 0],.int .i64 2]) (by simp[x0,x1,results,ji,go_sem]) rfl (FIN.out _ jY)
theorem rdtake_A (k:Nat) (n:Int) (u:Bool) (h:RD X w pd gh pc pm gN e mn lw hi O M v A V vp U d) (hI:pU e d) (hX: ∀x∈X,x<w.heap.size) {l r:List Ob} {o:Ob} (hk:d.H[k]?=some (l++[o],r)):
 Calls prog 24 #[.pointer (some ⟨pd,0,none⟩),.int .i64 k,.int .i64 n,.bool u] w (mO X pd gh pc pm gN e mn lw hi O M A w (takeD mn O e d k n u).1 (.tuple #[obV (takeD mn O e d k n u).2.2,.int .i64 (takeD mn O e d k n u).2.1])):=by
 have hkl:=(au.1 hk).1;have hl4:=(hI.h4 _ (aF hk)).1;have ld:ni (l++[o],r) d.P=((l++[o],r),d.P):=by unfold ni;rw[if_neg sI]
 have et:takeD mn O e d k n u=(⟨d.c,d.H.set k (l,r),d.P⟩,0,o):=by
  rw[nI (oZ hk) (o:=o) (by rw[ld];simp),ld];simp
 rw[et];have b1:Below w.heap.size w (w.alloc (.cells #[.int .i64 0,.int .i64 0] 40)):=jY;have L1:=ah (show jR (w.alloc (.cells #[.int .i64 0,.int .i64 0] 40)) w.heap.size [.int .i64 0,.int .i64 0] from jR.mk_ w [.int .i64 0,.int .i64 0] 40 rfl);obtain⟨W1,hW1⟩:=eY (w.alloc (.cells #[.int .i64 0,.int .i64 0] 40));have h1:=h.below b1;rw[←hW1] at b1 L1 h1;have s1:W1.heap.size=w.heap.size+1:=by rw[hW1];simp
 obtain⟨p,hp,o1,o2,g0,g1,f0,f1,gl⟩:=h1.hand hk;obtain⟨⟨pa,pb⟩,rfl⟩: ∃q,q=p:=⟨_,rfl⟩;obtain⟨q,cap,e1,cp1,cp2⟩:=o1.isSlice;obtain⟨q2,cap2,e2,_,_⟩:=o2.isSlice;simp only at e1 e2 g0 g1 hp;subst e1 e2;obtain⟨og,off,rfl,_,ogl,t0,t1⟩:=mD.at (by simpa using o1) (j:=l.length) (o:=o) sI;have c1:=h1.b.d.gC 1;have cl:=h1.b.d.lt;have e3:(l++[o]).length=l.length+1:=sI;rw[e3] at g0 hl4 cp1;have IW0:=h1.worker k;rw[dQt (show 0≤(k:Int)∧(k:Int)<d.H.length from om)] at IW0;have IW:=ah IW0;have hH4:=hI.hl;have hvl:k<V.length:=by rw[h.b.hl];exact hkl
 obtain⟨p',hp',o1',o2',_⟩:=h.hand hk;rw[hp] at hp';obtain rfl:=aO hp';have ro1:mD X w (.slice (some ⟨og,off,none⟩) l.length cap) l:=by
  obtain⟨q',cap',e4,e5⟩:=o1'.cut l.length sI;simp only at e4;injection e4 with e6 _ e7;subst e6 e7;simpa using e5
 have ghl:gh<w.heap.size:=h.b.hs.lt;have Af:Hid (∀W2 W,Keep [] w W2→Below w.heap.size ((W2.setCell ⟨gh,k*2,none⟩ (.slice (some ⟨og,off,none⟩) l.length cap)).setCell ⟨gh,k*2+1,none⟩ (.slice q2 r.length cap2)) W→mO X pd gh pc pm gN e mn lw hi O M A w ⟨d.c,d.H.set k (l,r),d.P⟩ (.tuple #[.agg #[.int .i64 o.1,.int .i64 o.2],.int .i64 0]) (.returned (.tuple #[.agg #[.int .i64 o.1,.int .i64 o.2],.int .i64 0])) W):=fun W2 W k2 b=>by
  have lo:=(Qp (h.b.hs.keep k2 sI) hvl (.slice (some ⟨og,off,none⟩) l.length cap) (.slice q2 r.length cap2)).below b ghl;have kk:Keep [gh] w W:=(((k2.mono (S':=[gh]) (fun _ q=>by cases q)).setCell (p:=⟨gh,k*2,none⟩) (.inl sI) _).setCell (p:=⟨gh,k*2+1,none⟩) (.inl sI) _).low b (aI _);exact mO.here hX (h.yu k (p':=(.slice (some ⟨og,off,none⟩) l.length cap,.slice q2 r.length cap2)) (h':=(l,r)) hkl ro1 o2' kk lo) kk (fun s q=>by simp at q;subst q;exact ak _ (aG ..))
 obtain⟨m,hm⟩:=eY l.length;obtain⟨mr,hmr⟩: ∃m,m=r.length:=⟨_,rfl⟩;obtain⟨nH,hnH⟩: ∃m,m=d.H.length:=⟨_,rfl⟩;rw[←hm] at g0 t0 t1 hl4 cp1 Af;rw[←hmr] at g1 Af;rw[←hnH] at c1 hkl hH4;have hw1:IntKind.i64.wrap (((m+1:Nat):Int)-1)=(m:Int):=by rw[aY _ om];omega
 have d1:decide ((m+1:Nat)=0)=false:=sI;have r1: ¬(gh=w.heap.size):=om;have r2: ¬(gh=w.heap.size+1):=om;have r3: ¬(gh=w.heap.size+1+1):=om;have r4: ¬(w.heap.size+1=gh):=om;have r5: ¬(w.heap.size+1+1=gh):=om;have r6: ¬(w.heap.size=gh):=om;have K1:=ah (Keep.of (S:=[]) b1);have rl:w.heap.size<W1.heap.size:=om;have i0:(0:Int)≤(k:Int):=om;have i1:(k:Int)<(nH:Int):=om;have S1:=ah s1;rw[s1] at ogl cl gl;have LL:=L1.out;have v0:=LL.gC 0;have v1:=LL.gC 1;have vf0:=LL.f 0 sI;have vf1:=LL.f 1 sI;clear h h1 hI hk hp o1 o2 o1' o2' ro1 e3 hm hmr hnH ld et b1 hp' IW0 LL;go_in
 go_wp2_with fail;rw[←hW1];clear hW1;refine IW.out.mono ?_;rintro r' w1 ⟨rfl,rfl⟩;clear IW;go_wp2;refine lJ 7 kR kR ?_;simp only[aQ,aV,aP,aU];repeat still_step
 refine wpStill_nil ?_;go_wp2;have M:=ah ((((((L1.out.far (c:=gh) r1 (k*2) (.slice (some ⟨og,off,none⟩) m cap)).far (c:=gh) r1 (k*2+1) (.slice q2 mr cap2)).lq (.int .i64 o.1) (.int .i64 o.2)).past (.cells #[.slice (some ⟨og,off,none⟩) m cap,.slice q2 mr cap2] 153)).past (.cells #[.int .i64 o.1,.int .i64 o.2] 40)).mP);have x0:=M.out.gC 0;have x1:=M.out.gC 1;exact bodyPost_ret (v:=.tuple #[.agg #[.int .i64 o.1,.int .i64 o.2],.int .i64 0]) (by simp[x0,x1,results,ji,go_sem]) rfl (Af.out _ _ K1.out (by refine Below.drew ?_;refine iW ?_ (by simp;omega) _;refine iW ?_ (by simp;omega) _;refine iD ?_ sI _;refine iD ?_ sI _;exact aL _ _))
theorem rdtake_B (k:Nat) (n:Int) (u:Bool) (h:RD X w pd gh pc pm gN e mn lw hi O M v A V vp U d) (hI:pU e d) (hX: ∀x∈X,x<w.heap.size) {l:List Ob} {o:Ob} (hk:d.H[k]?=some ([],l++[o])):
 Calls prog 24 #[.pointer (some ⟨pd,0,none⟩),.int .i64 k,.int .i64 n,.bool u] w (mO X pd gh pc pm gN e mn lw hi O M A w (takeD mn O e d k n u).1 (.tuple #[obV (takeD mn O e d k n u).2.2,.int .i64 (takeD mn O e d k n u).2.1])):=by
 have hkl:=(au.1 hk).1;have hl4:=(hI.h4 _ (aF hk)).2;have ld:ni ([],l++[o]) d.P=((l++[o],[]),d.P):=by unfold ni;rw[if_pos rfl,if_neg sI]
 have et:takeD mn O e d k n u=(⟨d.c,d.H.set k (l,[]),d.P⟩,0,o):=by
  rw[nI (oZ hk) (o:=o) (by rw[ld];simp),ld];simp
 rw[et];have b1:Below w.heap.size w (w.alloc (.cells #[.int .i64 0,.int .i64 0] 40)):=jY;have L1:=ah (show jR (w.alloc (.cells #[.int .i64 0,.int .i64 0] 40)) w.heap.size [.int .i64 0,.int .i64 0] from jR.mk_ w [.int .i64 0,.int .i64 0] 40 rfl);obtain⟨W1,hW1⟩:=eY (w.alloc (.cells #[.int .i64 0,.int .i64 0] 40));have h1:=h.below b1;rw[←hW1] at b1 L1 h1;have s1:W1.heap.size=w.heap.size+1:=by rw[hW1];simp
 obtain⟨p,hp,o1,o2,g0,g1,f0,f1,gl⟩:=h1.hand hk;obtain⟨⟨pa,pb⟩,rfl⟩: ∃q,q=p:=⟨_,rfl⟩;obtain⟨q2,cap2,e2,_,_⟩:=o1.isSlice;obtain⟨q,cap,e1,cp1,cp2⟩:=o2.isSlice;simp only at e1 e2 g0 g1 hp;subst e1 e2;obtain⟨og,off,rfl,_,ogl,t0,t1⟩:=mD.at (by simpa using o2) (j:=l.length) (o:=o) sI;have c1:=h1.b.d.gC 1;have cl:=h1.b.d.lt;have e3:(l++[o]).length=l.length+1:=sI;rw[e3] at g1 hl4 cp1;rw[show([]:List Ob).length=0 from rfl] at g0;have IW0:=h1.worker k;rw[dQt (show 0≤(k:Int)∧(k:Int)<d.H.length from om)] at IW0;have IW:=ah IW0;have hH4:=hI.hl;have hvl:k<V.length:=by rw[h.b.hl];exact hkl
 obtain⟨p',hp',o1',o2',_⟩:=h.hand hk;rw[hp] at hp';obtain rfl:=aO hp';have ro1:mD X w (.slice (some ⟨og,off,none⟩) l.length cap) l:=by
  obtain⟨q',cap',e4,e5⟩:=o2'.cut l.length sI;simp only at e4;injection e4 with e6 _ e7;subst e6 e7;simpa using e5
 have ghl:gh<w.heap.size:=h.b.hs.lt;have Af:Hid (∀W2 W,Keep [] w W2→Below w.heap.size ((W2.setCell ⟨gh,k*2,none⟩ (.slice (some ⟨og,off,none⟩) l.length cap)).setCell ⟨gh,k*2+1,none⟩ (.slice q2 0 cap2)) W→mO X pd gh pc pm gN e mn lw hi O M A w ⟨d.c,d.H.set k (l,[]),d.P⟩ (.tuple #[.agg #[.int .i64 o.1,.int .i64 o.2],.int .i64 0]) (.returned (.tuple #[.agg #[.int .i64 o.1,.int .i64 o.2],.int .i64 0])) W):=fun W2 W k2 b=>by
  have lo:=(Qp (h.b.hs.keep k2 sI) hvl (.slice (some ⟨og,off,none⟩) l.length cap) (.slice q2 0 cap2)).below b ghl;have kk:Keep [gh] w W:=(((k2.mono (S':=[gh]) (fun _ q=>by cases q)).setCell (p:=⟨gh,k*2,none⟩) (.inl sI) _).setCell (p:=⟨gh,k*2+1,none⟩) (.inl sI) _).low b (aI _);exact mO.here hX (h.yu k (p':=(.slice (some ⟨og,off,none⟩) l.length cap,.slice q2 0 cap2)) (h':=(l,[])) hkl ro1 o1' kk lo) kk (fun s q=>by simp at q;subst q;exact ak _ (aG ..))
 obtain⟨m,hm⟩:=eY l.length;obtain⟨nH,hnH⟩: ∃m,m=d.H.length:=⟨_,rfl⟩;rw[←hm] at g1 t0 t1 hl4 cp1 Af;rw[←hnH] at c1 hkl hH4;have hw1:IntKind.i64.wrap (((m+1:Nat):Int)-1)=(m:Int):=by rw[aY _ om];omega
 have d1:decide ((m+1:Nat)=0)=false:=sI;have r1: ¬(gh=w.heap.size):=om;have r2: ¬(gh=w.heap.size+1):=om;have r3: ¬(gh=w.heap.size+1+1):=om;have r4: ¬(w.heap.size+1=gh):=om;have r5: ¬(w.heap.size+1+1=gh):=om;have r6: ¬(w.heap.size=gh):=om;have K1:=ah (Keep.of (S:=[]) b1);have rl:w.heap.size<W1.heap.size:=om;have i0:(0:Int)≤(k:Int):=om;have i1:(k:Int)<(nH:Int):=om;have S1:=ah s1;rw[s1] at ogl cl gl;have LL:=L1.out;have v0:=LL.gC 0;have v1:=LL.gC 1;have vf0:=LL.f 0 sI;have vf1:=LL.f 1 sI;clear h h1 hI hk hp o1 o2 o1' o2' ro1 e3 hm hnH ld et b1 hp' IW0 LL;go_in
 go_wp2_with fail;rw[←hW1];clear hW1;refine IW.out.mono ?_;rintro r' w1 ⟨rfl,rfl⟩;clear IW;go_wp2;refine lJ 7 kR kR ?_;simp only[aQ,aV,aP,aU];repeat still_step
 refine wpStill_nil ?_;go_wp2;have M:=ah ((((((L1.out.far (c:=gh) r1 (k*2) (.slice (some ⟨og,off,none⟩) m cap)).far (c:=gh) r1 (k*2+1) (.slice q2 0 cap2)).lq (.int .i64 o.1) (.int .i64 o.2)).past (.cells #[.slice (some ⟨og,off,none⟩) m cap,.slice q2 0 cap2] 153)).past (.cells #[.int .i64 o.1,.int .i64 o.2] 40)).mP);have x0:=M.out.gC 0;have x1:=M.out.gC 1;exact bodyPost_ret (v:=.tuple #[.agg #[.int .i64 o.1,.int .i64 o.2],.int .i64 0]) (by simp[x0,x1,results,ji,go_sem]) rfl (Af.out _ _ K1.out (by refine Below.drew ?_;refine iW ?_ (by simp;omega) _;refine iW ?_ (by simp;omega) _;refine iD ?_ sI _;refine iD ?_ sI _;exact aL _ _))
end
section
variable {X Y S M M' F G:List Nat} {w w' w0:World} {ev:Nat→Addr} {pd gh pc pm gN e:Nat} {mn lw hi:Int} {O:List (List Int)} {v v' vp vp':Value} {A A':SA} {V V':HV} {U U':List Value} {d d':De} {c c':Ca}
theorem rdtake_C (k:Nat) (n:Int) (u:Bool) (h:RD X w pd gh pc pm gN e mn lw hi O M v A V vp U d) (hI:pU e d) (hX: ∀x∈X,x<w.heap.size) {P':List (List Ob)} {l:List Ob} {o:Ob} (hk:d.H[k]?=some ([],[])) (hP:d.P=P'++[l++[o]]):
 Calls prog 24 #[.pointer (some ⟨pd,0,none⟩),.int .i64 k,.int .i64 n,.bool u] w (mO X pd gh pc pm gN e mn lw hi O M A w (takeD mn O e d k n u).1 (.tuple #[obV (takeD mn O e d k n u).2.2,.int .i64 (takeD mn O e d k n u).2.1])):=by
 have hkl:=(au.1 hk).1;have hl4:(l++[o]).length≤4:=Nat.le_of_eq (hI.p4 (l++[o]) (by rw[hP];simp));have ld:ni ([],[]) d.P=((l++[o],[]),P'):=by unfold ni;rw[if_pos rfl,if_pos rfl,hP];simp
 have et:takeD mn O e d k n u=(⟨d.c,d.H.set k (l,[]),P'⟩,0,o):=by
  rw[nI (oZ hk) (o:=o) (by rw[ld];simp),ld];simp
 rw[et];have b1:Below w.heap.size w (w.alloc (.cells #[.int .i64 0,.int .i64 0] 40)):=jY;have L1:=ah (show jR (w.alloc (.cells #[.int .i64 0,.int .i64 0] 40)) w.heap.size [.int .i64 0,.int .i64 0] from jR.mk_ w [.int .i64 0,.int .i64 0] 40 rfl);obtain⟨W1,hW1⟩:=eY (w.alloc (.cells #[.int .i64 0,.int .i64 0] 40));have h1:=h.below b1;rw[←hW1] at b1 L1 h1;have s1:W1.heap.size=w.heap.size+1:=by rw[hW1];simp
 obtain⟨p,hp,o1,o2,g0,g1,f0,f1,gl⟩:=h1.hand hk;obtain⟨⟨pa,pb⟩,rfl⟩: ∃q,q=p:=⟨_,rfl⟩;obtain⟨q3,cap3,e1,_,_⟩:=o1.isSlice;obtain⟨q2,cap2,e2,_,_⟩:=o2.isSlice;simp only at e1 e2 g0 g1 hp;subst e1 e2;rw[show([]:List Ob).length=0 from rfl] at g0 g1;have hPl:d.P[P'.length]?=some (l++[o]):=by rw[hP];simp
 obtain⟨qp,kp,evp,kp1,kp2,Wo⟩:=h1.pile;obtain⟨u,pg,po,hu,epp,_,pgl,pc2,ru⟩:=Wo P'.length _ hPl;subst epp;obtain⟨q,cap,e1,cp1,cp2⟩:=ru.isSlice;subst e1;subst evp;obtain⟨og,off,rfl,ogx,ogl,t0,t1⟩:=mD.at ru (j:=l.length) (o:=o) sI;have c2:=h1.b.d.gC 2;have nP:d.P.length=P'.length+1:=by rw[hP];simp
 rw[nP] at c2 kp1;have pl:P'.length≤65536:=by have:=(o9 hI).1;have:=oU hI.c;omega
 have hvp:(.slice (some ⟨pg,po,none⟩) d.P.length kp:Value)= .slice (some ⟨pg,po,none⟩) (P'.length+1) kp:=by rw[nP]
 have c1:=h1.b.d.gC 1;have cl:=h1.b.d.lt;have e3:(l++[o]).length=l.length+1:=sI;rw[e3] at pc2 hl4 cp1;have IW0:=h1.worker k;rw[dQt (show 0≤(k:Int)∧(k:Int)<d.H.length from om)] at IW0;have IW:=ah IW0;have hH4:=hI.hl;have hvl:k<V.length:=by rw[h.b.hl];exact hkl
 obtain⟨p',hp',o1',o2',_⟩:=h.hand hk;rw[hp] at hp';obtain rfl:=aO hp';have ruw:mD X w (.slice (some ⟨og,off,none⟩) (l++[o]).length cap) (l++[o]):=h.b.po _ _ _ hu hPl;have ro1:mD X w (.slice (some ⟨og,off,none⟩) l.length cap) l:=by
  obtain⟨q',cap',e4,e5⟩:=ruw.cut l.length sI;injection e4 with e6 _ e7;subst e6 e7;simpa using e5
 have hpw:nO X w (.slice (some ⟨pg,po,none⟩) P'.length kp) (U.take P'.length):=h.b.row.cutV P'.length om;have hul:(U.take P'.length).length=P'.length:=by rw[bD,h.b.ul];omega
 have hpo: ∀(i:Nat) (u:Value) (m:List Ob),(U.take P'.length)[i]?=some u→P'[i]?=some m→mD X w u m:=fun i u m hu' hm'=>by
  have il:=(au.1 hm').1;rw[dH il] at hu';exact h.b.po i u m hu' (by rw[hP,bJ il];exact hm')
 have dlw:=h.b.d;have ghl:gh<w.heap.size:=h.b.hs.lt;have Af:Hid (∀W2 W,Keep [] w W2→Below w.heap.size (((W2.setCell ⟨pd,2,none⟩ (.slice (some ⟨pg,po,none⟩) P'.length kp)).setCell ⟨gh,k*2,none⟩ (.slice (some ⟨og,off,none⟩) l.length cap)).setCell ⟨gh,k*2+1,none⟩ (.slice q2 0 cap2)) W→mO X pd gh pc pm gN e mn lw hi O M A w ⟨d.c,d.H.set k (l,[]),P'⟩ (.tuple #[.agg #[.int .i64 o.1,.int .i64 o.2],.int .i64 0]) (.returned (.tuple #[.agg #[.int .i64 o.1,.int .i64 o.2],.int .i64 0])) W):=fun W2 W k2 b=>by
  have kp':Keep [pd] W2 (W2.setCell ⟨pd,2,none⟩ (.slice (some ⟨pg,po,none⟩) P'.length kp)):=(Keep.refl _ _).setCell (p:=⟨pd,2,none⟩) (.inl sI) _;have lo:=(Qp ((h.b.hs.keep k2 sI).keep kp' (by simpa using fun q=>h.b.ne q.symm)) hvl (.slice (some ⟨og,off,none⟩) l.length cap) (.slice q2 0 cap2)).below b ghl;have ld':=(((h.b.d.keep k2 sI).store 2 (.slice (some ⟨pg,po,none⟩) P'.length kp) sI).far (c:=gh) (fun q=>h.b.ne q.symm) (k*2) (.slice (some ⟨og,off,none⟩) l.length cap)).far (c:=gh) (fun q=>h.b.ne q.symm) (k*2+1) (.slice q2 0 cap2) |>.below b h.b.d.lt;have kk:Keep [gh,pd] w W:=((((k2.mono (S':=[gh,pd]) (fun _ q=>by cases q)).setCell (p:=⟨pd,2,none⟩) (.inl sI) _).setCell (p:=⟨gh,k*2,none⟩) (.inl sI) _).setCell (p:=⟨gh,k*2+1,none⟩) (.inl sI) _).low b (aI _);exact mO.here hX (h.FU k (p':=(.slice (some ⟨og,off,none⟩) l.length cap,.slice q2 0 cap2)) (h':=(l,[])) hkl ro1 o2' kk lo ld' hpw hul hpo) kk (fun s q=>by
   simp at q;rcases q with rfl|rfl
   ·exact ak _ (aG ..)
   ·exact aG ..)
 obtain⟨m,hm⟩:=eY l.length;obtain⟨np,hnp⟩: ∃m,m=P'.length:=⟨_,rfl⟩;obtain⟨nH,hnH⟩: ∃m,m=d.H.length:=⟨_,rfl⟩;rw[←hm] at pc2 t0 t1 hl4 cp1 Af;rw[←hnp] at c2 pc2 kp1 pl Af;have cf2:=h1.b.d.f 2 sI;unfold maxLen at kp2;have hw2:IntKind.i64.wrap (((np+1:Nat):Int)-1)=(np:Int):=by rw[aY _ om];omega
 have d2:decide ((0:Int)<((np+1:Nat):Int))=true:=dQt om;have hpg: ¬(pd=gh):=h.b.ne;have hpo1: ¬(pd=og):=fun q=>ogx (q▸h.b.mem.1)
 have hpo2: ¬(og=pd):=fun q=>ogx (q▸h.b.mem.1)
 have hgp: ¬(gh=pd):=fun q=>h.b.ne q.symm
 rw[←hnH] at c1 hkl hH4;have hw1:IntKind.i64.wrap (((m+1:Nat):Int)-1)=(m:Int):=by rw[aY _ om];omega
 have d1:decide ((m+1:Nat)=0)=false:=sI;have r1: ¬(gh=w.heap.size):=om;have r2: ¬(gh=w.heap.size+1):=om;have r3: ¬(gh=w.heap.size+1+1):=om;have r4: ¬(w.heap.size+1=gh):=om;have r5: ¬(w.heap.size+1+1=gh):=om;have r6: ¬(w.heap.size=gh):=om;have K1:=ah (Keep.of (S:=[]) b1);have rl:w.heap.size<W1.heap.size:=om;have i0:(0:Int)≤(k:Int):=om;have i1:(k:Int)<(nH:Int):=om;have S1:=ah s1;rw[s1] at ogl cl gl pgl;have LL:=L1.out;have v0:=LL.gC 0;have v1:=LL.gC 1;have vf0:=LL.f 0 sI;have vf1:=LL.f 1 sI;have plw:pd<w.heap.size:=h.b.d.lt;have s1': ¬(pd=w.heap.size):=om;have s2': ¬(pd=w.heap.size+1):=om;have s3': ¬(pd=w.heap.size+1+1):=om;have s4': ¬(w.heap.size+1=pd):=om;have s5': ¬(w.heap.size+1+1=pd):=om;have s6': ¬(w.heap.size=pd):=om;clear h h1 hI hk hp o1 o2 o1' o2' ro1 e3 hm hnp hnH hPl hu ru ruw hpw hul hpo dlw Wo nP hvp hP ld et b1 hp' IW0 LL;go_in
 go_wp2_with fail;rw[←hW1];clear hW1;refine IW.out.mono ?_;rintro r' w1 ⟨rfl,rfl⟩;clear IW;go_wp2;refine lJ 7 kR kR ?_;simp only[aQ,aV,aP,aU];repeat still_step
 refine wpStill_nil ?_;go_wp2;have M:=ah (((((((L1.out.far (c:=pd) s1' 2 (.slice (some ⟨pg,po,none⟩) np kp)).far (c:=gh) r1 (k*2) (.slice (some ⟨og,off,none⟩) m cap)).far (c:=gh) r1 (k*2+1) (.slice q2 0 cap2)).lq (.int .i64 o.1) (.int .i64 o.2)).past (.cells #[.slice (some ⟨og,off,none⟩) m cap,.slice q2 0 cap2] 153)).past (.cells #[.int .i64 o.1,.int .i64 o.2] 40)).mP);have x0:=M.out.gC 0;have x1:=M.out.gC 1;exact bodyPost_ret (v:=.tuple #[.agg #[.int .i64 o.1,.int .i64 o.2],.int .i64 0]) (by simp[x0,x1,results,ji,go_sem]) rfl (Af.out _ _ K1.out (by refine Below.drew ?_;refine iW ?_ (by simp;omega) _;refine iW ?_ (by simp;omega) _;refine iD ?_ sI _;refine iD ?_ sI _;exact aL _ _))
end
section
variable {X Y S M M' F G:List Nat} {w w' w0:World} {ev:Nat→Addr} {pd gh pc pm gN e:Nat} {mn lw hi:Int} {O:List (List Int)} {v v' vp vp':Value} {A A':SA} {V V':HV} {U U':List Value} {d d':De} {c c':Ca}
theorem rdtake_D (k:Nat) (n:Int) (u:Bool) (h:RD X w pd gh pc pm gN e mn lw hi O M v A V vp U d) (hI:pU e d) (hX: ∀x∈X,x<w.heap.size) (hk:d.H[k]?=some ([],[])) (hP:d.P=[]):
 Calls prog 24 #[.pointer (some ⟨pd,0,none⟩),.int .i64 k,.int .i64 n,.bool u] w (mO X pd gh pc pm gN e mn lw hi O M A w (takeD mn O e d k n u).1 (.tuple #[obV (takeD mn O e d k n u).2.2,.int .i64 (takeD mn O e d k n u).2.1])):=by
 have hkl:=(au.1 hk).1;have ld:(ni ([],[]) d.P).1.1.getLast?=none:=by rw[hP];rfl
 rw[o8 (oZ hk) ld];have b1:Below w.heap.size w (w.alloc (.cells #[.int .i64 0,.int .i64 0] 40)):=jY;have L1:=ah (show jR (w.alloc (.cells #[.int .i64 0,.int .i64 0] 40)) w.heap.size [.int .i64 0,.int .i64 0] from jR.mk_ w [.int .i64 0,.int .i64 0] 40 rfl);obtain⟨W1,hW1⟩:=eY (w.alloc (.cells #[.int .i64 0,.int .i64 0] 40));have yR: ∀y∈w.heap.size::X,y∈X∨w.heap.size≤y:=fun y hy=>by
  rcases aB.1 hy with rfl|q
  ·exact .inr (aI _)
  ·exact .inl q
 have h1:=(h.more (Y:=w.heap.size::X) (fun x q=>ak _ q) yR).below b1;rw[←hW1] at b1 L1 h1;have s1:W1.heap.size=w.heap.size+1:=by rw[hW1];simp
 obtain⟨p,hp,o1,o2,g0,g1,f0,f1,gl⟩:=h1.hand hk;obtain⟨⟨pa,pb⟩,rfl⟩: ∃q,q=p:=⟨_,rfl⟩;obtain⟨q,cap,e1,cp1,cp2⟩:=o1.isSlice;obtain⟨q2,cap2,e2,_,_⟩:=o2.isSlice;simp only at e1 e2 g0 g1 hp;subst e1 e2;rw[show([]:List Ob).length=0 from rfl] at g0 g1;obtain⟨qp,kp,evp,_,_,_⟩:=h1.pile;rw[hP,show([]:List (List Ob)).length=0 from rfl] at evp;subst evp;have c0:=h1.b.d.gC 0;have c1:=h1.b.d.gC 1;have c2:=h1.b.d.gC 2;have cl:=h1.b.d.lt;have IW0:=h1.worker k;rw[dQt (show 0≤(k:Int)∧(k:Int)<d.H.length from om)] at IW0;have IW:=ah IW0;have hH4:=hI.hl;have NR:Hid (w.heap.size∉rds pd gh pc pm gN A M):=fun q=>by have:=h.lt _ q;omega
 have TK:Hid (∀W,Below W1.heap.size W1 W→Calls prog 76 #[.pointer (some ⟨pc,0,none⟩),.int .i64 n,.bool u] W (vM (w.heap.size::X) pc pm gN e mn lw hi O M A W (takeC mn O e d.c n u))):=fun W b=>
  Tm n u (h1.below b).c hI.c (fun x hx=>by
   have:=b.size;rcases aB.1 hx with rfl|q
   ·omega
   ·have:=hX x q;omega)
 have H1:=ah h1;have B1:=ah b1;have Af:Hid (∀Wb w5 W en,Below W1.heap.size W1 Wb→vM (w.heap.size::X) pc pm gN e mn lw hi O M A Wb (takeC mn O e d.c n u) en w5→W=(w5.setCell ⟨w.heap.size,0,none⟩ (.int .i64 (takeC mn O e d.c n u).2.2.1)).setCell ⟨w.heap.size,1,none⟩ (.int .i64 (takeC mn O e d.c n u).2.2.2)→
  mO X pd gh pc pm gN e mn lw hi O M A w ⟨(takeC mn O e d.c n u).1,d.H,d.P⟩ (.tuple #[obV (takeC mn O e d.c n u).2.2,.int .i64 (takeC mn O e d.c n u).2.1]) (.returned (.tuple #[.agg #[.int .i64 (takeC mn O e d.c n u).2.2.1,.int .i64 (takeC mn O e d.c n u).2.2.2],.int .i64 (takeC mn O e d.c n u).2.1])) W):=fun Wb w5 W en bb hp hW=>by
  obtain⟨hr,X',M',v',A',r1,r2,r3,r4,r5,r6,r7⟩:=hp;have hb:=H1.out.below bb;have zb:=bb.size;have h4: ∀y∈rcs pc pm gN A' M',y∈rcs pc pm gN A M∨Wb.heap.size≤y:=fun y hy=>by
   rcases aD.1 hy with t|t
   ·rcases aB.1 t with t|t
    ·subst t;exact .inl (av _ (aG ..))
    ·exact(r7 y t).imp (fun s=>av _ (ak _ s)) id
   ·rcases aB.1 t with t|t
    ·subst t;exact .inl (aj _ (aG ..))
    ·rcases aB.1 t with t|t
     ·subst t;exact .inl (aj _ (ak _ (aG ..)))
     ·exact(r6 y t).imp (fun s=>aj _ (ak _ (ak _ s))) id
  have hS: ∀s∈gN::Ez pc A,s∈rcs pc pm gN A M:=fun s hs=>by
   rcases aB.1 hs with t|t
   ·subst t;exact aj _ (ak _ (aG ..))
   ·exact av _ t
  have r:=hb.cache r1 r3 r4 h4 r2 hS;have nres:w.heap.size∉rds pd gh pc pm gN A' M':=fun t=>by
   have l1:=h1.b.d.lt;rcases aB.1 t with t|t
   ·exact NR.out (t▸aG ..)
   ·rcases aB.1 t with t|t
    ·exact NR.out (t▸ak _ (aG ..))
    ·rcases h4 _ t with t|t
     ·exact NR.out (ak _ (ak _ t))
     ·omega
  have kk:Keep [w.heap.size] w5 W:=by rw[hW];exact((Keep.refl _ _).setCell (p:=⟨w.heap.size,0,none⟩) (.inl sI) _).setCell (p:=⟨w.heap.size,1,none⟩) (.inl sI) _
  have rW:=r.keep kk (fun s q=>by simp at q;subst q;exact .inl ⟨r3 _ (aG ..),nres⟩);have K:Keep (gN::Ez pc A) w W:=(((Keep.of (B1.out.trans (bb.mono B1.out.size))).then r2)).trans kk (fun s q=>by simp at q;subst q;exact .inr (aI _));refine⟨rfl,X',M',v',A',V,_,U,rW,K.mono (fun s q=>ak _ (ak _ (hS s q))),fun x q=>r3 x (ak _ q),fun x q=> ?_,fun x q=>aC (r5 x q) kk.size,fun y q=> ?_⟩
  ·rcases r4 x q with t|t
   ·rcases aB.1 t with rfl|t
    ·exact .inr (aI _)
    ·exact .inl t
   ·exact .inr om
  ·rcases aB.1 q with t|q
   ·subst t;exact .inl (aG ..)
   ·rcases aB.1 q with t|q
    ·subst t;exact .inl (ak _ (aG ..))
    ·rcases h4 y q with t|t
     ·exact .inl (ak _ (ak _ t))
     ·exact .inr om
 have PV:Hid (∀Wb w5 en,vM (w.heap.size::X) pc pm gN e mn lw hi O M A Wb (takeC mn O e d.c n u) en w5→en= .returned (.tuple #[.agg #[.int .i64 (takeC mn O e d.c n u).2.2.1,.int .i64 (takeC mn O e d.c n u).2.2.2],.int .i64 (takeC mn O e d.c n u).2.1])∧Keep (gN::Ez pc A) Wb w5):=fun Wb w5 en hp=>by
  obtain⟨hr,X',M',v',A',r1,r2,_⟩:=hp;exact⟨hr,r2⟩
 have NG:Hid (w.heap.size∉gN::Ez pc A):=fun q=>NR.out (by
  rcases aB.1 q with t|t
  ·exact ak _ (ak _ (t▸aj _ (ak _ (aG ..))))
  ·exact ak _ (ak _ (av _ t)))
 obtain⟨nH,hnH⟩: ∃m,m=d.H.length:=⟨_,rfl⟩;rw[←hnH] at c1 hkl hH4;obtain⟨r,hr⟩:=eY (takeC mn O e d.c n u);rw[←hr] at TK Af PV ⊢;obtain⟨c1',qq,j1,j2⟩:=r;simp only[obV] at Af PV ⊢;have i0:(0:Int)≤(k:Int):=om;have i1:(k:Int)<(nH:Int):=om;have S1:=ah s1;rw[s1] at cl gl;have LL:=L1.out;have v0:=LL.gC 0;have v1:=LL.gC 1;have vf0:=LL.f 0 sI;have vf1:=LL.f 1 sI;have rl:w.heap.size<w.heap.size+1:=om;clear h h1 hI hk hp o1 o2 hnH ld b1 IW0 LL yR hr hP;go_in
 go_wp2_with fail;rw[←hW1];clear hW1;refine IW.out.mono ?_;rintro r' w1 ⟨rfl,rfl⟩;clear IW;go_wp2_with fail;refine(TK.out _ (by rw[S1.out];exact jY)).mono ?_;intro en w5 hp;obtain⟨e1,kk5⟩:=PV.out _ _ _ hp;have HP:=ah hp;have LL:=(L1.out.past (.cells #[.slice q 0 cap,.slice q2 0 cap2] 153)).keep kk5 NG.out;have f0:=LL.f 0 sI;have f1:=LL.f 1 sI;have ll:=LL.lt;have y0:=LL.gC 0;have y1:=LL.gC 1;have HM:=ah (LL.lq (.int .i64 j1) (.int .i64 j2));clear hp kk5 LL v0 v1 vf0 vf1 TK PV c0 c1 c2 cl;subst e1;dsimp only;go_wp2;have x0:=HM.out.gC 0;have x1:=HM.out.gC 1;exact bodyPost_ret (v:=.tuple #[.agg #[.int .i64 j1,.int .i64 j2],.int .i64 qq]) (by simp[x0,x1,results,ji,go_sem]) rfl (Af.out _ _ _ _ (by rw[S1.out];exact jY) HP.out rfl)
theorem Tp (k n:Int) (u:Bool) (h:RD X w pd gh pc pm gN e mn lw hi O M v A V vp U d) (hI:pU e d) (hX: ∀x∈X,x<w.heap.size):
 Calls prog 24 #[.pointer (some ⟨pd,0,none⟩),.int .i64 k,.int .i64 n,.bool u] w (mO X pd gh pc pm gN e mn lw hi O M A w (takeD mn O e d k n u).1 (.tuple #[obV (takeD mn O e d k n u).2.2,.int .i64 (takeD mn O e d k n u).2.1])):=by
 cases hh:p8 d k with
 |none=>exact Tn k n u h hX hh
 |some g=>
  obtain⟨k0,h1,h2,h3⟩:=qH hh;obtain⟨kn,hkn⟩:=eY k.toNat;rw[←hkn] at h1 h3;subst h3;obtain⟨g1,g2⟩:=g;rcases dI g1 with rfl|⟨l,o,rfl⟩
  ·rcases dI g2 with rfl|⟨l,o,rfl⟩
   ·rcases dI d.P with hP|⟨P0,m,hP⟩
    ·exact rdtake_D kn n u h hI hX h1 hP
    ·have hm:=hI.p4 m (by rw[hP];simp)
     rcases dI m with rfl|⟨l,o,rfl⟩
     ·simp at hm
     ·exact rdtake_C kn n u h hI hX h1 (by simpa using hP)
   ·exact rdtake_B kn n u h hI hX (by simpa using h1)
  ·exact rdtake_A kn n u h hI hX (by simpa using h1)
end
