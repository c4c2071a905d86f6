/- Lemmas. -/
import Derived.Test.YtehhldljdakgeaaGreatDoorQb01
import Derived.Test.YtehhldljdakgeaaGreatDoorQb23
set_option linter.unusedSimpArgs false
set_option linter.unusedVariables false
set_option maxHeartbeats 16000000
set_option maxRecDepth 100000
namespace Go.Proofs.YtehhldljdakgeaaGreatDoor
open Go.RowKit Go.Maps Go.Proofs.Tryz
attribute [local go_sem ↓] aJ aK
section
variable {σ:Type} {w0:World}
def drS (E:FEnv σ w0) (X F:List Nat) (d:σ) (w:World):Prop:=∃Z H,E.S Z (H++F) d w∧(∀x∈X,x∈Z)∧(∀z∈Z,z∈X∨z∈H)∧(∀h∈H,h∉X)∧∀f∈F,f∈X
variable {E:FEnv σ w0} {X Y F G:List Nat} {d d':σ} {w w':World} {r:Value} {en:Ending}
theorem drS.of (h:E.S X F d w):drS E X F d w:=⟨X,[],h,fun _ q=>q,fun _ q=>.inl q,fun _ q=>(by cases q),fun f q=>E.sU h f q⟩
theorem drS.post {Z H:List Nat} (h1: ∀x∈X,x∈Z) (h2: ∀z∈Z,z∈X∨z∈H) (h3: ∀h∈H,h∉X) (h4: ∀f∈F,f∈X) (hl: ∀z∈Z,z<w.heap.size) (hp:EPost E.S Z (H++F) d' w r en w'):EPost (drS E) X F d' w r en w':=by
 obtain⟨he,Z',k1,k2,k3,k4⟩:=hp;refine⟨he,Z'.filter (fun z=>decide (z∉H)),⟨Z',H,k1,fun x q=>(bG.1 q).1,fun z q=> ?_,fun z q t=>by have:=(bG.1 t).2;simp at this;exact this q,fun f q=> ?_⟩,k2.mono fun s q=> ?_,fun x q=> ?_,fun x q=> ?_⟩
 ·by_cases t:z∈H
  ·exact .inr t
  ·exact .inl (bG.2 ⟨q,by simpa using t⟩)
 ·exact bG.2 ⟨k4 f (h1 f (h4 f q)),by simpa using fun t=>h3 f t (h4 f q)⟩
 ·obtain⟨q1,q2⟩:=jW.1 q
  exact jW.2 ⟨(h2 s q1).resolve_right fun t=>q2 (av _ t),fun t=>q2 (aj _ t)⟩
 ·obtain⟨q1,q2⟩:=bG.1 q
  simp at q2;rcases k3 x q1 with t|t
  ·exact .inl ((h2 x t).resolve_right q2)
  ·exact .inr t
 ·exact bG.2 ⟨k4 x (h1 x q),by simpa using fun t=>h3 x t q⟩
def FEnv.dr (E:FEnv σ w0):FEnv σ w0 where
 S:=drS E
 bel:=fun⟨Z,H,h,_⟩=>E.bel h
 lim:=fun⟨Z,H,h,h1,_⟩ x hx=>E.lim h x (h1 x hx)
 sU:=fun⟨Z,H,h,h1,h2,h3,h4⟩=>h4
 go:=fun⟨Z,H,h,hr⟩ k=>⟨Z,H,E.go h k,hr⟩
 other:=fun⟨Z,H,h,hr⟩ k hs=>⟨Z,H,E.other h k (fun g q=>aj _ (hs g q)),hr⟩
 uS:=fun {X F G Y d w w'} ⟨Z,H,h,h1,h2,h3,h4⟩ k hs hy=>by
  refine⟨Y++Z,H,E.wB (E.uS h k (fun g q=>aj _ (hs g q)) hy) (fun g q=> ?_),fun x q=> ?_,fun z q=> ?_,fun z q t=> ?_,fun f q=> ?_⟩
  ·rcases aD.1 q with t|t
   ·exact aj _ (av _ t)
   ·rcases aD.1 t with u|u
    ·exact av _ u
    ·exact aj _ (aj _ u)
  ·rcases aD.1 q with t|t
   ·exact av _ t
   ·exact aj _ (h1 x t)
  ·rcases aD.1 q with t|t
   ·exact .inl (av _ t)
   ·exact(h2 z t).imp (fun u=>aj _ u) id
  ·rcases aD.1 t with u|u
   ·have:=(hy z u).1
    have:=(E.lim h z (E.sU h z (av _ q))).2;omega
   ·exact h3 z q u
  ·rcases aD.1 q with t|t
   ·exact av _ t
   ·exact aj _ (h4 f t)
 wB:=fun {X F G d w} ⟨Z,H,h,h1,h2,h3,h4⟩ hs=>⟨Z,H,E.wB h (fun g q=>by
  rcases aD.1 q with t|t
  ·exact av _ t
  ·exact aj _ (hs g t)),h1,h2,h3,fun f q=>h4 f (hs f q)⟩
theorem FEnv.drop (h:E.dr.S X F d w) (hY: ∀y∈Y,y∈X) (hX: ∀x∈X,x∈Y∨x∈F) (hG: ∀g∈G,g∈F∧g∈Y):E.dr.S Y G d w:=by
 obtain⟨Z,H,h,h1,h2,h3,h4⟩:=h;refine⟨Z,H++F.filter (fun f=>decide (f∉Y)),E.wB h fun g q=> ?_,fun x q=>h1 x (hY x q),fun z q=> ?_,fun z q t=> ?_,fun f q=>(hG f q).2⟩
 ·rcases aD.1 q with t|t
  ·rcases aD.1 t with u|u
   ·exact av _ u
   ·exact aj _ (bG.1 u).1
  ·exact aj _ (hG g t).1
 ·rcases h2 z q with t|t
  ·by_cases u:z∈Y
   ·exact .inl u
   ·exact .inr (aj _ (bG.2 ⟨(hX z t).resolve_left u,by simpa using u⟩))
  ·exact .inr (av _ t)
 ·rcases aD.1 q with u|u
  ·exact h3 z u (hY z t)
  ·have:=(bG.1 u).2;simp at this;exact this t
end
section
variable {pd pc pz e:Nat} {mn:Int} {O:List (List Int)} {ev:Nat→Addr} {w0:World}
def sG.dr (E:sG pd pc pz e mn O ev w0):sG pd pc pz e mn O ev w0 where
 toFEnv:=E.toFEnv.dr
 inv:=fun⟨Z,H,h,_⟩=>E.inv h
 ord:=fun⟨Z,H,h,_⟩=>E.ord h
 err:=E.err
 take:=fun k n u ⟨Z,H,h,h1,h2,h3,h4⟩=>(E.take k n u h).mono fun r w' hp=>drS.post h1 h2 h3 h4 (fun z q=>(E.lim h z q).2) hp
 give:=fun k o ⟨Z,H,h,h1,h2,h3,h4⟩ o1 o2=>(E.give k o h o1 o2).mono fun r w' hp=>drS.post h1 h2 h3 h4 (fun z q=>(E.lim h z q).2) hp
 work:=fun⟨Z,H,h,_⟩=>E.work h
 cache:=fun⟨Z,H,h,_⟩=>E.cache h
 zone:=fun⟨Z,H,h,_⟩=>E.zone h
 free:=fun v ⟨Z,H,h,_⟩=>E.free v h
end
def mM (mn:Int) (O:List (List Int)) (e:Nat) (v:Int):Nat→De→List Ob→De×List Ob×Nat
 |0,d,R=>(d,R,0)
 |n+1,d,R=>if (takeD mn O e d 0 v true).2.1=0 then mM mn O e v n (takeD mn O e d 0 v true).1 (R++[(takeD mn O e d 0 v true).2.2])
  else(mF e (takeD mn O e d 0 v true).1 R,[],(takeD mn O e d 0 v true).2.1)
theorem wV {mn:Int} {O:List (List Int)} {e:Nat} {v:Int} {n:Nat} {d:De} {R:List Ob} (h:(takeD mn O e d 0 v true).2.1=0):
 mM mn O e v (n+1) d R=mM mn O e v n (takeD mn O e d 0 v true).1 (R++[(takeD mn O e d 0 v true).2.2]):=by rw[mM,if_pos h]
theorem Gb {mn:Int} {O:List (List Int)} {e:Nat} {v:Int} {n:Nat} {d:De} {R:List Ob} (h:(takeD mn O e d 0 v true).2.1≠0):
 mM mn O e v (n+1) d R=(mF e (takeD mn O e d 0 v true).1 R,[],(takeD mn O e d 0 v true).2.1):=by rw[mM,if_neg h]
def uq (d:De) (most:Nat) (R:List Ob):Po:=⟨d,most,R,[],[],[],0,false⟩
section
variable {pd pc pz e:Nat} {mn:Int} {O:List (List Int)} {ev:Nat→Addr} {w0:World} {E:sG pd pc pz e mn O ev w0} {X F:List Nat} {w w':World} {pp:Nat} {p:Po} {d:De}
def PNewPost (E:sG pd pc pz e mn O ev w0) (X F:List Nat) (w:World) (most:Nat) (r:De×List Ob×Nat) (en:Ending) (w':World):Prop:=
 (r.2.2≠0∧EPost E.S X F r.1 w (.tuple #[.pointer none,kM ev r.2.2]) en w')∨
 (r.2.2=0∧∃pp,en= .returned (.tuple #[.pointer (some ⟨pp,0,none⟩),.nilIface])∧w.heap.size≤pp∧nN E X F pp (uq r.1 most r.2.1) w w')
theorem pQ.put {σ:Type} {w0 w W W':World} {E:FEnv σ w0} {X0 F L X Y G:List Nat} {d:σ} (h:pQ E X0 F w L X d W) (k:Keep G W W') (hG: ∀g∈G,g∈L) (hY: ∀y∈Y,W.heap.size≤y∧y<W'.heap.size):pQ E X0 F w (Y++L) (Y++X) d W':=by
 have z:=h.k.size;refine⟨by rw[bT];exact E.uS h.t k (fun g q=>av _ (hG g q)) hY,h.k.trans k (fun s q=>.inr (h.l s (hG s q)).1),fun x q=> ?_,fun x q=>aj _ (h.x2 x q),fun b q=> ?_⟩
 ·rcases aD.1 q with r|r
  ·have:=(hY x r).1;exact .inr om
  ·exact h.x1 x r
 ·rcases aD.1 q with r|r
  ·have:=hY b r;exact⟨om,this.2⟩
  ·exact⟨(h.l b r).1,aC (h.l b r).2 k.size⟩
structure Gc (E:sG pd pc pz e mn O ev w0) (X F:List Nat) (w:World) (pp bt bg n:Nat) (L X':List Nat) (d:De) (R:List Ob) (vr:Value) (wr:World):Prop where
 run:pQ E.toFEnv X F w L X' d wr
 mem:pp∈L∧bt∈L∧bg∈L∧∀y∈jS vr,y∈L
 c:jR wr pp (kS pd bt bg vr (.slice none 0 0) (uq d n R))
 t:qO prog 40 wr bt (EF [])
 g:qO prog 3 wr bg (Dm [])
 row:wr.ownsRow w.heap.size 40 2 vr R.length (l8 R)
 ne:pp≠bt∧pp≠bg∧bt≠bg∧pp∉jS vr∧bt∉jS vr∧bg∉jS vr
section
variable {pp bt bg n:Nat} {L X' S:List Nat} {R:List Ob} {vr vr':Value} {wr w4 w5:World} {d':De} {r:Value} {en:Ending}
theorem Gc.keep (h:Gc E X F w pp bt bg n L X' d R vr wr) {L' X2:List Nat} (hf:pQ E.toFEnv X F w L' X2 d' w4) (hL: ∀y∈L,y∈L') (k:Keep S wr w4) (hs: ∀s∈S,s∉L):Gc E X F w pp bt bg n L' X2 d' R vr w4:=
 ⟨hf,⟨hL _ h.mem.1,hL _ h.mem.2.1,hL _ h.mem.2.2.1,fun y q=>hL _ (h.mem.2.2.2 y q)⟩,h.c.keep k (fun q=>hs _ q h.mem.1),h.t.keep k (fun q=>hs _ q h.mem.2.1),h.g.keep k (fun q=>hs _ q h.mem.2.2.1),jQ h.row k (fun s q r=>hs s q (h.mem.2.2.2 s r)),h.ne⟩
theorem Gc.go (h:Gc E X F w pp bt bg n L X' d R vr wr) (k:Below wr.heap.size wr w4):Gc E X F w pp bt bg n L X' d R vr w4:=h.keep (h.run.go k) (fun _ q=>q) (Keep.of (S:=[]) k) (fun _ q=>by cases q)
theorem Gc.act (h:Gc E X F w pp bt bg n L X' d R vr wr) (hp:EPost E.S X' (L++F) d' wr r en w4):en= .returned r∧∃X2,Gc E X F w pp bt bg n L X2 d' R vr w4:=by
 obtain⟨h1,X2,h2,h3⟩:=h.run.act hp;exact⟨h1,X2,h.keep h2 (fun _ q=>q) h3 (fun s q r=>(jW.1 q).2 (av _ r))⟩
theorem Gc.app {m:Nat} {o:Ob} {q:Option Addr} {k:Nat} (h:Gc E X F w pp bt bg n L X' d R vr wr) (hm:m=R.length) (hown:w4.ownsRow w.heap.size 40 2 (.slice q (m+1) k) (m+1) (l8 (R++[o]))) (hg:wr.grownBy w4 vr.ownBlock)
 (hz:(Value.slice q (m+1) k).ownBlock=vr.ownBlock∨(Value.slice q (m+1) k).ownBlock=some wr.heap.size) (h5:w5=w4.setCell ⟨pp,2,none⟩ (.slice q (m+1) k)):
 ∃L' X2,Gc E X F w pp bt bg n L' X2 d (R++[o]) (.slice q (m+1) k) w5:=by
 obtain⟨m1,m2,m3,m4,m5,m6⟩:=h.ne;have k4:=kJ hg;have k5:Keep [pp] w4 w5:=by rw[h5];exact(Keep.refl _ _).setCell (p:=⟨pp,2,none⟩) (.inl sI) _
 have z4:=k4.size;have z5:=k5.size;have hmem:=h.mem;have lp:=h.run.l _ hmem.1;have lt:=h.run.l _ hmem.2.1;have lg:=h.run.l _ hmem.2.2.1;have K:Keep (pp::jS vr) wr w5:=(k4.mono (fun s r=>ak _ r)).then (k5.mono (fun s r=>by simp at r;subst r;simp));have hown': ∀y∈jS (Value.slice q (m+1) k),y∈jS vr∨y=wr.heap.size:=fun y hy=>by
  rcases hz with e1|e1
  ·left;unfold jS at hy ⊢;rw[e1] at hy;exact hy
  ·right;unfold jS at hy;rw[e1] at hy;simpa using hy
 have hlt: ∀y∈jS (Value.slice q (m+1) k),y<w5.heap.size:=fun y hy=>by
  have:(Value.slice q (m+1) k).ownBlock=some y:=by
   unfold jS at hy;cases e1:(Value.slice q (m+1) k).ownBlock with
   |none=>rw[e1] at hy;simp at hy
   |some b=>rw[e1] at hy;simp at hy;rw[hy]
  have:=(hown.lt y this).2;omega
 have hY: ∀y∈(jS (Value.slice q (m+1) k)).filter (fun y=>decide (wr.heap.size≤y)),wr.heap.size≤y∧y<w5.heap.size:=fun y hy=>by
  obtain⟨q1,q2⟩:=bG.1 hy;exact⟨of_decide_eq_true q2,hlt y q1⟩
 have far: ∀y,y<wr.heap.size→y∉jS vr→y∉jS (Value.slice q (m+1) k):=fun y h1 h2 h3=>by
  rcases hown' y h3 with r|r
  ·exact h2 r
  ·omega
 have kp: ∀y,y≠pp→y∉jS vr→y∉pp::jS vr:=fun y h1 h2 h3=>by
  rcases aB.1 h3 with r|r
  ·exact h1 r
  ·exact h2 r
 refine⟨_,_,h.run.put K (fun g r=> ?_) hY,⟨aj _ hmem.1,aj _ hmem.2.1,aj _ hmem.2.2.1,fun y hy=> ?_⟩,?_,?_,?_,?_,⟨m1,m2,m3,far pp lp.2 m4,far bt lt.2 m5,far bg lg.2 m6⟩⟩
 ·rcases aB.1 r with t|t
  ·rw[t];exact hmem.1
  ·exact hmem.2.2.2 g t
 ·rcases hown' y hy with r|r
  ·exact aj _ (hmem.2.2.2 y r)
  ·exact av _ (bG.2 ⟨hy,dQt om⟩)
 ·rw[h5]
  exact(h.c.keep k4 m4).store 2 (.slice q (m+1) k) (by simp[kS])
 ·exact h.t.keep K (kp bt m1.symm m5)
 ·exact h.g.keep K (kp bg m2.symm m6)
 ·have:=jQ hown k5 (fun s r t=>by simp at r;exact far pp lp.2 m4 (r▸t))
  rw[show(R++[o]).length=m+1 by rw[hm];simp];exact this
end
theorem Gc.fin {pp bt bg n:Nat} {L X':List Nat} {R:List Ob} {vr:Value} {wr:World} (h:Gc E.dr X F w pp bt bg n L X' d R vr wr) (hi:nX e (uq d n R)) (hX: ∀x∈X,x<w.heap.size) (hF: ∀f∈F,f∈X):nN E.dr X F pp (uq d n R) w wr:=by
 obtain⟨m1,m2,m3,m4,m5,m6⟩:=h.ne;obtain⟨l1,l2,l3,l4⟩:=h.mem;have lx: ∀f∈L,f∈X':=fun f q=>E.dr.sU h.run.t f (av _ q)
 have xl: ∀x∈X,x∉L:=fun x q r=>by have:=hX x q;have:=(h.run.l x r).1;omega
 have inY: ∀y,y∈X'→y∉jS vr→y∈X'.filter (fun y=>decide (y∉jS vr)):=fun y a b=>bG.2 ⟨a,dQt b⟩
 have e0:jS (Value.slice none 0 0)=[]:=rfl;have hp: ∀y∈pws pp bt bg (.slice none 0 0),y∈L∧y∉jS vr:=fun y q=>by
  unfold pws at q;rw[e0] at q;simp at q;rcases q with rfl|rfl|rfl
  ·exact⟨l1,m4⟩
  ·exact⟨l2,m5⟩
  ·exact⟨l3,m6⟩
 refine⟨X'.filter (fun y=>decide (y∉jS vr)),⟨⟨bt,bg,vr,.slice none 0 0,FEnv.drop (E:=E.toFEnv) h.run.t (fun y q=>(bG.1 q).1) (fun x q=> ?_) (fun g q=> ?_),⟨h.c,qX h.row (fun g q r=> ?_),h.t,aT _ _ _ _,h.g,?_,fun y q=> ?_⟩,fun f q r=>xl f (hF f q) (hp f r).1⟩,hi⟩,h.run.k,fun x q=>h.run.x1 x (bG.1 q).1,fun x q=>inY x (h.run.x2 x q) fun r=>xl x q (l4 x r)⟩
 ·by_cases r:x∈jS vr
  ·exact .inr (av _ (l4 x r))
  ·exact .inl (inY x q r)
 ·rcases aD.1 q with r|r
  ·exact⟨av _ (hp g r).1,inY g (lx g (hp g r).1) (hp g r).2⟩
  ·exact⟨aj _ r,inY g (h.run.x2 g (hF g r)) fun t=>xl g (hF g r) (l4 g t)⟩
 ·have:=(bG.1 r).2
  simp[jS,q] at this
 ·unfold pws
  rw[e0];simp;exact⟨⟨m1,m2⟩,m3⟩
 ·have:=E.dr.lim h.run.t y (lx y (hp y q).1)
  exact this
theorem Gd (v:Int) (n:Nat) (h:E.dr.S X F d w) (hn:1≤n∧n≤16) {l:List Ob} (hm:MoI e l d) (hH:0<d.H.length):
 Calls prog 9 #[.pointer (some ⟨pd,0,none⟩),.int .i64 v,.int .i64 n] w (PNewPost E.dr X F w n (mM mn O e v n d [])):=by
 obtain⟨n1,n16⟩:=hn;have d0:decide ((n:Int)<1)=false:=dQf om;have d1:decide ((16:Int)<(n:Int))=false:=dQf om;have d2: ¬((n:Int)<1):=om;have d3: ¬((16:Int)<(n:Int)):=om;have hmm:= @run_makeMap prog;have hXl:=ah (fun x hx=>(E.dr.lim h x hx).2: ∀x∈X,x<w.heap.size);have hFX:=ah (E.dr.sU h);obtain⟨W3,hW3⟩:=eX (((w.alloc (.map #[] 0)).alloc (.map #[] 0)).alloc (.cells #[.pointer (some ⟨pd,0,none⟩),.int .i64 n,.slice none 0 0,.map (some w.heap.size),.slice none 0 0,.map (some (w.heap.size+1)),.int .i64 0,.bool false] 120));have START:Gc E.dr X F w (w.heap.size+2) w.heap.size (w.heap.size+1) n [w.heap.size+2,w.heap.size+1,w.heap.size] ((w.heap.size+2)::(w.heap.size+1)::w.heap.size::X) d [] (.slice none 0 0) W3:=by
  subst hW3;have r1:=(pQ.start h).box (.map #[] 0);have r2:=r1.box (.map #[] 0);have r3:=r2.box (.cells #[.pointer (some ⟨pd,0,none⟩),.int .i64 n,.slice none 0 0,.map (some w.heap.size),.slice none 0 0,.map (some (w.heap.size+1)),.int .i64 0,.bool false] 120);have z1:(w.alloc (.map #[] 0)).heap.size=w.heap.size+1:=sI;have z2:((w.alloc (.map #[] 0)).alloc (.map #[] 0)).heap.size=w.heap.size+2:=sI;rw[z1,z2] at r3;have M1:qO prog 40 (w.alloc (.map #[] 0)) w.heap.size (EF []):=qO.made _ _ _;have M2:qO prog 3 ((w.alloc (.map #[] 0)).alloc (.map #[] 0)) (w.alloc (.map #[] 0)).heap.size (Dm []):=qO.made _ _ _;rw[z1] at M2;refine⟨r3,⟨sI,sI,sI,fun y q=>by cases q⟩,jR.mk_ _ _ _ z2,(M1.below jY).below jY,M2.below jY,aT _ _ _ _,?_⟩;refine⟨om,om,om,by simp[jS,Value.ownBlock],by simp[jS,Value.ownBlock],by simp[jS,Value.ownBlock]⟩
 have HS:=ah START;have hI:=E.dr.inv h;have HI0:Hid (pU e d∧mM mn O e v n d []=mM mn O e v (n-0) d []∧([]:List Ob).length=0∧([]:List Ob).Nodup∧(∀o∈([]:List Ob),qJ o)∧0<d.H.length∧∃l,MoI e l d∧∀x∈([]:List Ob),x∈l):=⟨hI,rfl,rfl,dR,fun o q=>(by cases q),hH,l,hm,fun x q=>(by cases q)⟩;obtain⟨bt,hbt⟩:=eX w.heap.size;clear START hI hm hH h hbt;go_in
 go_wp2_with fail;clear hmm hW3 d0 d1 d2 d3;go_loopw [30] (fun iv wr=>∃(i:Nat) (L X':List Nat) (d':De) (R:List Ob) (q:Option Addr) (k:Nat),i≤n∧iv= .int .i64 i∧Hid (Gc E.dr X F w (w.heap.size+2) w.heap.size (w.heap.size+1) n L X' d' R (.slice q i k) wr)∧
  Hid (pU e d'∧mM mn O e v n d []=mM mn O e v (n-i) d' R∧R.length=i∧R.Nodup∧(∀o∈R,qJ o)∧0<d'.H.length∧∃l,MoI e l d'∧∀x∈R,x∈l)) (fun iv _=>n-(intOf iv).toNat)
 case atStart=>exact⟨0,_,_,_,_,_,_,bq _,by go_num,HS,HI0⟩
 case round=>
  obtain⟨i,L,X',d',R,q,k,hin,rfl,HP,HI⟩:=hrel;by_cases hlt:i<n
  ·have hli:(i:Int)<(n:Int):=by omega
   have hl0:(0:Int)≤(i:Int):=om;obtain⟨dn,c,o,ht⟩: ∃dn c o,takeD mn O e d' 0 v true=(dn,c,o):=⟨_,_,_,rfl⟩;have TK0:=E.dr.take 0 v true HP.out.run.t;rw[ht] at TK0;have TK:=ah (show Calls prog 23 #[.pointer (some ⟨pd,0,none⟩),.int .i64 0,.int .i64 v,.bool true] wr (EPost E.dr.S X' (L++F) dn wr (.tuple #[.agg #[.int .i64 o.1,.int .i64 o.2],kM ev c])) from TK0);have HT:=ah ht;have hO:=ah (E.dr.ord HP.out.run.t);clear TK0 ht;go_wp2_with fail;refine TK.out.mono ?_;intro r w1 hp;obtain⟨hr,X2,hP1⟩:=HP.out.act hp;subst hr;have hb1:Below w1.heap.size w1 (w1.alloc (bO o)):=by unfold bO;exact jY
   have hPb:=hP1.go hb1;have LB:jR (w1.alloc (bO o)) w1.heap.size [.int .i64 o.1,.int .i64 o.2]:=jR.mk_ w1 [.int .i64 o.1,.int .i64 o.2] 40 rfl;obtain⟨Wb,hWb⟩:=eX (w1.alloc (bO o));obtain⟨b9,hb9⟩:=eX w1.heap.size;rw[hWb] at hPb LB;rw[hb9] at LB;have x0:=LB.gC 0;have x1:=LB.gC 1;have xl:=LB.lt;have x2:=hPb.c.gC 2;have xf:=hPb.c.f 2 (by simp[kS]);have xL:=hPb.c.lt;have HPB:=ah hPb;have HLB:=ah LB;have hpp:=(hP1.run.l _ hP1.mem.1).2;have hn9: ∀y∈jS (Value.slice q i k),y<w1.heap.size:=fun y hy=>(hP1.run.l y (hP1.mem.2.2.2 y hy)).2
   rw[hb9] at hn9;have HN9:=ah hn9;have HW1:=ah hP1.run.k.size;clear hp hP1 TK hPb LB hb1 hn9;by_cases h0:c=0
   ·subst h0
    have e0:kM ev 0= .nilIface:=rfl;rw[e0];clear e0;unfold bO at hWb;have hm0:=HI.out;have i16:i≤70000:=om;have NE: ¬(w.heap.size+2=b9):=om;have NE': ¬(b9=w.heap.size+2):=fun r=>NE r.symm
    go_wp2_with fail;clear hWb hb9;refine kE (S:=(fun w'=>w'.cell? ⟨w.heap.size+2,2,none⟩=some (.slice q i k)∧w'.cell? ⟨b9,0,none⟩=some (.int .i64 o.1)∧w'.cell? ⟨b9,1,none⟩=some (.int .i64 o.2))) 8 #[false,false,false,false,false,false,false,false] rfl kR kR (by(try dsimp only);go_keep) (fun hHeld=> ?_);simp only[aQ,aV];refine tk 0 ?_;refine tk 1 ?_;refine tk 2 ?_;refine tk 3 ?_;refine tk 4 ?_;refine tk 5 ?_;refine wpAnyH_ready (rs:=[6]) kR sI ?_;refine aR (jT rfl) (fun K hK=> ?_) aX;go_simp
    refine hkO hK fun hHeld=> ?_
    clear hK K;refine wpAnyH_ready (rs:=[7]) kR sI ?_;refine aR (jT rfl) (fun K hK=> ?_) aX;obtain⟨i1,i2,i3,i4,i5,i6,l,i7,i8⟩:=HI.out;have hD:=HPB.out.go (show Below Wb.heap.size Wb (Wb.alloc (.cells #[.int .i64 o.1,.int .i64 o.2] 40)).drew from jY);have hrow:=hD.row;rw[i3] at hrow;refine oI uh (base:=w.heap.size) (ms:=[.int .i64 o.1,.int .i64 o.2]) rf (.tmp 58) (.tmp 60) rf rf rf hrow rfl (fun j u hj=>oK Wb _ _ _ j u hj) (oL _ _) i16 (by have:=hD.run.k.size;exact this) ?_;intro q4 k4 w4 kV hg4 hz4;have c4:=hD.c.keep (kJ hg4) hD.ne.2.2.2.1;have u2:=c4.gC 2;have uf:=c4.f 2 (by simp[kS]);have ul:=c4.lt;have n9:b9∉jS (Value.slice q i k):=fun r=>by have:=HN9.out b9 r;omega
    have L9:=(HLB.out.go (show Below Wb.heap.size Wb (Wb.alloc (.cells #[.int .i64 o.1,.int .i64 o.2] 40)).drew from jY)).keep (kJ hg4) n9;have y0:=L9.gC 0;have y1:=L9.gC 1;have HD:=ah hD;have HG4:=ah hg4;have HZ4:=ah hz4;have HO4:Hid (w4.ownsRow w.heap.size 40 2 (.slice q4 (i+1) k4) (i+1) (l8 (R++[o]))):=by rw[lY];exact kV
    have i8': ∀x∈R,x∈qj e d'.c.C:=fun x hx=>(i7.iff x).2 (.inl (i8 x hx))
    rcases MoI.take hO.out i1 i7 0 v true with⟨j1,j2,j3⟩|⟨j1,_⟩;rotate_left
    ·rw[HT.out] at j1;exact absurd rfl j1
    have ti:=sw (mn:=mn) (O:=O) (k:=0) (v:=v) (u:=true) hO.out i1;have th:(takeD mn O e d' 0 v true).1.H.length=d'.H.length:=uo;have INV:Hid (pU e dn∧mM mn O e v n d []=mM mn O e v (n-(i+1)) dn (R++[o])∧(R++[o]).length=i+1∧(R++[o]).Nodup∧(∀x∈R++[o],qJ x)∧0<dn.H.length∧∃l,MoI e l dn∧∀x∈R++[o],x∈l):=by
     have e1:n-i=(n-(i+1))+1:=om;rw[e1,wV j1] at i2;rw[HT.out] at i2 ti j2 j3 th;have hoR:o∉R:=fun q=>j2 (i8 o q)
     have hs: ∀x∈R++[o],x∈l++[o]:=fun x hx=>by
      rcases aD.1 hx with q|q
      ·exact av _ (i8 x q)
      ·exact aj _ q
     refine⟨ti,i2,by simp[i3],?_,fun x hx=>Ke ti.c ((j3.iff x).2 (.inl (hs x hx))),by rw[th];exact i6,l++[o],j3,hs⟩;rw[bF];exact⟨i4,sI,fun a ha b hb=>by simp at hb;subst hb;exact fun q=>hoR (q▸ha)⟩
    have I3:=ah i3;clear kV hg4 hz4 hD c4 L9 n9 i1 i2 i3 i4 i5 i6 i7 i8 i8' j1 j2 j3 ti th hrow hm0;refine hkO hK fun hHeld=> ?_
    clear hK K;refine wpAnyH_done kR ?_ _;simp only[oz,aP,aU];clear hHeld x0 x1 x2 xf xL xl;go_wp2;go_roundw;case rel=>
     obtain⟨L2,X3,hP5⟩:=HD.out.app I3.out.symm HO4.out HG4.out HZ4.out rfl;exact⟨i+1,L2,X3,dn,R++[o],q4,k4,om,by go_num,hP5,INV⟩
    case measure=>simp[intOf];omega
   ·obtain⟨c',rfl⟩: ∃c',c=c'+1:=⟨c-1,om⟩
    have e0:kM ev (c'+1)= .iface 336 (.pointer (some (ev (c'+1)))):=rfl;rw[e0];unfold bO at hWb;have NE: ¬(w.heap.size+2=b9):=om;have NE': ¬(b9=w.heap.size+2):=fun r=>NE r.symm
    obtain⟨i1,i2,i3,i4,i5,i6,l,i7,i8⟩:=HI.out;have I5:=ah i5;have I3:=ah i3;have FILL:Hid (mM mn O e v n d []=(mF e dn R,[],c'+1)):=by
     have e1:n-i=(n-(i+1))+1:=om;rw[e1,Gb (by rw[HT.out];exact Nat.succ_ne_zero _)] at i2;rw[HT.out] at i2;exact i2
    have WM:Hid (Gc E.dr X F w (w.heap.size+2) w.heap.size (w.heap.size+1) n L X2 (mF e dn (R.take 0)) R (.slice q i k) Wb):=HPB.out;have ALL:Hid (R.take i=R):=by show _=_;rw[←I3.out];simp
    clear i1 i2 i3 i4 i5 i6 i7 i8 e0 x0 x1 xl;go_wp2_with fail;clear hWb hb9 x2 xf xL;go_loopw [45] (fun jv ws=>∃(j:Nat) (X3:List Nat),j≤i∧jv= .int .i64 j∧Hid (Gc E.dr X F w (w.heap.size+2) w.heap.size (w.heap.size+1) n L X3 (mF e dn (R.take j)) R (.slice q i k) ws)) (fun jv _=>i-(intOf jv).toNat);case atStart=>exact⟨0,X2,bq _,by go_num,WM⟩
    case round=>
     obtain⟨j,X3,hji,rfl,HQ⟩:=hrel;by_cases hjt:j<i
     ·obtain⟨a,ha⟩: ∃a,R[j]?=some a:=⟨R[j]'(by rw[I3.out];exact hjt),aA _⟩
      have ro:=qX (X:=[]) HQ.out.row (fun g _ r=>by cases r);obtain⟨g,off',eg,_,gl,y0,y1⟩:=ro.at ha;subst eg;have fo:qJ a:=I5.out a (aF ha);have GV:Hid (∀W,Below wr.heap.size wr W→Calls prog 50 #[.pointer (some ⟨pd,0,none⟩),.int .i64 0,.agg #[.int .i64 a.1,.int .i64 a.2]] W fun r w'=>(∃v,r= .returned v)∧∃X4,Gc E.dr X F w (w.heap.size+2) w.heap.size (w.heap.size+1) n L X4 (mF e dn (R.take (j+1))) R (.slice (some ⟨g,off',none⟩) i k) w'):=fun W hW=>by
       have tw:=HQ.out.go hW;refine(E.dr.give 0 a tw.run.t (by have:=fo.2;unfold kW at this;omega) (by have:=fo.2;unfold kW at this;omega)).mono fun r w' hp=> ?_
       obtain⟨hr,X4,h4⟩:=tw.act hp;exact⟨⟨_,hr⟩,X4,by rw[uL ha];exact h4⟩
      have hji':(j:Int)<(i:Int):=om;have hj0:(0:Int)≤(j:Int):=om;clear ha fo HQ ro;go_wp2_with fail;refine(GV.out _ jY).mono ?_;rintro r w5 ⟨⟨v5,rfl⟩,X5,p5⟩;have HP5:=ah p5;clear p5 GV y0 y1;go_wp2;go_roundw;case rel=>exact⟨j+1,X5,om,by go_num,HP5⟩
      case measure=>simp[intOf];omega
     ·obtain rfl:j=i:=by omega
      have HQ':=HQ.out;rw[ALL.out] at HQ';have HQ2:=ah HQ';clear HQ' HQ;go_wp2;go_ret2
      rw[FILL.out];exact .inl ⟨Nat.succ_ne_zero _,HQ2.out.run.fin⟩
  ·obtain rfl:i=n:=by omega
   go_wp2;go_ret2
   obtain⟨i1,i2,i3,i4,i5,i6,l,i7,i8⟩:=HI.out;have e0:i-i=0:=om;rw[e0] at i2;rw[i2];refine .inr ⟨rfl,w.heap.size+2,rfl,om,HP.out.fin ?_ hXl.out hFX.out⟩;exact⟨i1,⟨l,i7,fun x hx=>i8 x (by simpa[Po.obs,uq] using hx)⟩,by simpa[Po.obs,uq] using i4,⟨n1,n16⟩,by show R.length≤i;omega,by simp[uq],List.Pairwise.nil,fun t q=>(by cases q),dR,fun g q=>(by cases q),fun g q=>(by cases q),bZ _⟩
end
def tX (G:List (Int×Ob)):List Value:=G.flatMap fun g=>[.int .i64 g.1,.int .i64 g.2.1,.int .i64 g.2.2]
def Ac (pq:Nat) (vr vt vw vg:Value):List Nat:=pq::(jS vr++(jS vt++(jS vw++jS vg)))
def jV (pd:Nat) (vr vt vw vg:Value) (p:Po):List Value:=[.pointer (some ⟨pd,0,none⟩),.int .i64 p.most,vr,vt,vw,vg,.int .i64 p.last,.bool p.cl]
structure za (B:Nat) (w:World) (pq pd:Nat) (vr vt vw vg:Value) (p:Po):Prop where
 c:jR w pq (jV pd vr vt vw vg p)
 r:w.ownsRow B 40 2 vr p.R.length (l8 p.R)
 t:w.ownsRow B 40 2 vt p.T.length (l8 p.T)
 ow:w.ownsRow B 3 1 vw p.W.length (ints p.W)
 g:w.ownsRow B 137 3 vg p.G.length (tX p.G)
 nd:(Ac pq vr vt vw vg).Nodup
 lim: ∀y∈Ac pq vr vt vw vg,B≤y∧y<w.heap.size
section
variable {pd e:Nat} {mn:Int} {O:List (List Int)} {w0:World}
structure Gu (E:vC pd e mn O w0) (X F:List Nat) (pq:Nat) (vr vt vw vg:Value) (p:Po) (w:World):Prop where
 s:E.S X (Ac pq vr vt vw vg++F) p.d w
 b:za w0.heap.size w pq pd vr vt vw vg p
 f: ∀f∈F,f∉Ac pq vr vt vw vg
def rO (E:vC pd e mn O w0) (X F:List Nat) (pq:Nat) (p:Po) (w:World):Prop:=(∃vr vt vw vg,Gu E X F pq vr vt vw vg p w)∧nX e p
structure Gv (E:vC pd e mn O w0) (X F:List Nat) (w:World) (pq n:Nat) (L X':List Nat) (d:De) (R:List Ob) (vr:Value) (wr:World):Prop where
 run:pQ E.toFEnv X F w L X' d wr
 mem:pq∈L∧∀y∈jS vr,y∈L
 c:jR wr pq (jV pd vr (.slice none 0 0) (.slice none 0 0) (.slice none 0 0) (uq d n R))
 row:wr.ownsRow w.heap.size 40 2 vr R.length (l8 R)
 ne:pq∉jS vr
variable {E:vC pd e mn O w0} {X F:List Nat} {w w':World} {pq n:Nat} {d:De} {L X' S:List Nat} {R:List Ob} {vr vr':Value} {wr w4 w5:World} {d':De} {r:Value} {en:Ending}
theorem Gv.keep (h:Gv E X F w pq n L X' d R vr wr) {L' X2:List Nat} (hf:pQ E.toFEnv X F w L' X2 d' w4) (hL: ∀y∈L,y∈L') (k:Keep S wr w4) (hs: ∀s∈S,s∉L):Gv E X F w pq n L' X2 d' R vr w4:=
 ⟨hf,⟨hL _ h.mem.1,fun y q=>hL _ (h.mem.2 y q)⟩,h.c.keep k (fun q=>hs _ q h.mem.1),jQ h.row k (fun s q r=>hs s q (h.mem.2 s r)),h.ne⟩
theorem Gv.go (h:Gv E X F w pq n L X' d R vr wr) (k:Below wr.heap.size wr w4):Gv E X F w pq n L X' d R vr w4:=h.keep (h.run.go k) (fun _ q=>q) (Keep.of (S:=[]) k) (fun _ q=>by cases q)
theorem Gv.act (h:Gv E X F w pq n L X' d R vr wr) (hp:EPost E.S X' (L++F) d' wr r en w4):en= .returned r∧∃X2,Gv E X F w pq n L X2 d' R vr w4:=by
 obtain⟨h1,X2,h2,h3⟩:=h.run.act hp;exact⟨h1,X2,h.keep h2 (fun _ q=>q) h3 (fun s q r=>(jW.1 q).2 (av _ r))⟩
theorem Gv.app {m:Nat} {o:Ob} {q:Option Addr} {k:Nat} (h:Gv E X F w pq n L X' d R vr wr) (hm:m=R.length) (hown:w4.ownsRow w.heap.size 40 2 (.slice q (m+1) k) (m+1) (l8 (R++[o]))) (hg:wr.grownBy w4 vr.ownBlock)
 (hz:(Value.slice q (m+1) k).ownBlock=vr.ownBlock∨(Value.slice q (m+1) k).ownBlock=some wr.heap.size) (h5:w5=w4.setCell ⟨pq,2,none⟩ (.slice q (m+1) k)):
 ∃L' X2,Gv E X F w pq n L' X2 d (R++[o]) (.slice q (m+1) k) w5:=by
 have m4:=h.ne;have k4:=kJ hg;have k5:Keep [pq] w4 w5:=by rw[h5];exact(Keep.refl _ _).setCell (p:=⟨pq,2,none⟩) (.inl sI) _
 have z4:=k4.size;have z5:=k5.size;have hmem:=h.mem;have lp:=h.run.l _ hmem.1;have K:Keep (pq::jS vr) wr w5:=(k4.mono (fun s r=>ak _ r)).then (k5.mono (fun s r=>by simp at r;subst r;simp));have hlt: ∀y∈jS (Value.slice q (m+1) k),y<w5.heap.size:=fun y hy=>by
  have:=(hown.lt y (o7.1 hy)).2;omega
 have hown': ∀y∈jS (Value.slice q (m+1) k),y∈jS vr∨wr.heap.size≤y:=oM hz;have hY: ∀y∈(jS (Value.slice q (m+1) k)).filter (fun y=>decide (wr.heap.size≤y)),wr.heap.size≤y∧y<w5.heap.size:=fun y hy=>by
  obtain⟨q1,q2⟩:=bG.1 hy;exact⟨of_decide_eq_true q2,hlt y q1⟩
 have far:pq∉jS (Value.slice q (m+1) k):=fun h3=>by
  rcases hown' pq h3 with r|r
  ·exact m4 r
  ·omega
 refine⟨_,_,h.run.put K (fun g r=> ?_) hY,⟨aj _ hmem.1,fun y hy=> ?_⟩,?_,?_,far⟩
 ·rcases aB.1 r with t|t
  ·rw[t];exact hmem.1
  ·exact hmem.2 g t
 ·rcases hown' y hy with r|r
  ·exact aj _ (hmem.2 y r)
  ·exact av _ (bG.2 ⟨hy,dQt r⟩)
 ·rw[h5]
  exact(h.c.keep k4 m4).store 2 (.slice q (m+1) k) (by simp[jV])
 ·have:=jQ hown k5 (fun s r t=>by simp at r;exact far (r▸t))
  rw[show(R++[o]).length=m+1 by rw[hm];simp];exact this
theorem Gv.fin (h:Gv E X F w pq n L X' d R vr wr) (hi:nX e (uq d n R)) (hX: ∀x∈X,x<w.heap.size) (hF: ∀f∈F,f∈X) (hB:w0.heap.size≤w.heap.size):
 ∃X2,rO E X2 F pq (uq d n R) wr∧Keep (off X F) w wr∧(∀x∈X2,x∈X∨w.heap.size≤x)∧∀x∈X,x∈X2:=by
 have e0:jS (Value.slice none 0 0)=[]:=rfl;have hb:=(E.bel h.run.t).size;have hp: ∀y∈Ac pq vr (.slice none 0 0) (.slice none 0 0) (.slice none 0 0),y∈L:=fun y q=>by
  unfold Ac at q;rw[e0] at q;simp at q;rcases q with rfl|q
  ·exact h.mem.1
  ·exact h.mem.2 y q
 have xl: ∀x∈X,x∉L:=fun x q r=>by have:=hX x q;have:=(h.run.l x r).1;omega
 refine⟨X',⟨⟨vr,.slice none 0 0,.slice none 0 0,.slice none 0 0,E.wB h.run.t (fun g q=> ?_),⟨h.c,qB h.row ?_,aT _ _ _ _,aT _ _ _ _,aT _ _ _ _,?_,fun y q=>E.lim h.run.t y (E.sU h.run.t y (av _ (hp y q)))⟩,fun f q r=>xl f (hF f q) (hp f r)⟩,hi⟩,h.run.k,h.run.x1,h.run.x2⟩
 ·rcases aD.1 q with r|r
  ·exact av _ (hp g r)
  ·exact aj _ r
 ·exact hB
 ·unfold Ac
  rw[e0];simp only[dw];refine aS.2 ⟨h.ne,?_⟩;unfold jS;cases vr.ownBlock<;>simp
def WQ (E:vC pd e mn O w0) (X F:List Nat) (w:World) (most:Nat) (r:De×List Ob×Nat) (en:Ending) (w':World):Prop:=
 (r.2.2≠0∧EPost E.S X F r.1 w (.tuple #[.pointer none,.int .i64 r.2.2]) en w')∨
 (r.2.2=0∧∃pq,en= .returned (.tuple #[.pointer (some ⟨pq,0,none⟩),.int .i64 0])∧w.heap.size≤pq∧∃X2,rO E X2 F pq (uq r.1 most r.2.1) w'∧Keep (off X F) w w'∧(∀x∈X2,x∈X∨w.heap.size≤x)∧∀x∈X,x∈X2)
theorem Iq (v:Int) (n:Nat) (h:E.S X F d w) (hn:1≤n∧n≤16) {l:List Ob} (hm:MoI e l d) (hH:0<d.H.length):
 Calls prog 10 #[.pointer (some ⟨pd,0,none⟩),.int .i64 v,.int .i64 n] w (WQ E X F w n (mM mn O e v n d [])):=by
 obtain⟨n1,n16⟩:=hn;have d0:decide ((n:Int)<1)=false:=dQf om;have d1:decide ((16:Int)<(n:Int))=false:=dQf om;have d2: ¬((n:Int)<1):=om;have d3: ¬((16:Int)<(n:Int)):=om;have hXl:=ah (fun x hx=>(E.lim h x hx).2: ∀x∈X,x<w.heap.size);have hFX:=ah (E.sU h);have hB0:=ah (E.bel h).size;obtain⟨W3,hW3⟩:=eX (w.alloc (.cells #[.pointer (some ⟨pd,0,none⟩),.int .i64 n,.slice none 0 0,.slice none 0 0,.slice none 0 0,.slice none 0 0,.int .i64 0,.bool false] 62));obtain⟨pq,hpq⟩:=eX w.heap.size;have START:Gv E X F w pq n [pq] (pq::X) d [] (.slice none 0 0) W3:=by
  subst hW3;subst hpq;have r1:=(pQ.start h).box (.cells #[.pointer (some ⟨pd,0,none⟩),.int .i64 n,.slice none 0 0,.slice none 0 0,.slice none 0 0,.slice none 0 0,.int .i64 0,.bool false] 62);exact⟨r1,⟨sI,fun y q=>by cases q⟩,jR.mk_ _ _ _ rfl,aT _ _ _ _,by simp[jS,Value.ownBlock]⟩
 have HS:=ah START;have HPQ:Hid (w.heap.size≤pq):=by show _≤_;omega
 have hI:=E.inv h;have HI0:Hid (pU e d∧mM mn O e v n d []=mM mn O e v (n-0) d []∧([]:List Ob).length=0∧([]:List Ob).Nodup∧(∀o∈([]:List Ob),qJ o)∧0<d.H.length∧∃l,MoI e l d∧∀x∈([]:List Ob),x∈l):=⟨hI,rfl,rfl,dR,fun o q=>(by cases q),hH,l,hm,fun x q=>(by cases q)⟩;clear START hI hm hH h;go_in
 go_wp2_with fail;clear hW3 hpq d0 d1 d2 d3;go_loopw [9] (fun iv wr=>∃(i:Nat) (L X':List Nat) (d':De) (R:List Ob) (q:Option Addr) (k:Nat),i≤n∧iv= .int .i64 i∧Hid (Gv E X F w pq n L X' d' R (.slice q i k) wr)∧
  Hid (pU e d'∧mM mn O e v n d []=mM mn O e v (n-i) d' R∧R.length=i∧R.Nodup∧(∀o∈R,qJ o)∧0<d'.H.length∧∃l,MoI e l d'∧∀x∈R,x∈l)) (fun iv _=>n-(intOf iv).toNat)
 case atStart=>exact⟨0,_,_,_,_,_,_,bq _,by go_num,HS,HI0⟩
 case round=>
  obtain⟨i,L,X',d',R,q,k,hin,rfl,HP,HI⟩:=hrel;by_cases hlt:i<n
  ·have hli:(i:Int)<(n:Int):=by omega
   have hl0:(0:Int)≤(i:Int):=om;obtain⟨dn,c,o,ht⟩: ∃dn c o,takeD mn O e d' 0 v true=(dn,c,o):=⟨_,_,_,rfl⟩;have TK0:=E.take 0 v true HP.out.run.t;rw[ht] at TK0;have TK:=ah (show Calls prog 24 #[.pointer (some ⟨pd,0,none⟩),.int .i64 0,.int .i64 v,.bool true] wr (EPost E.S X' (L++F) dn wr (.tuple #[.agg #[.int .i64 o.1,.int .i64 o.2],.int .i64 c])) from TK0);have HT:=ah ht;have hO:=ah (E.ord HP.out.run.t);clear TK0 ht;go_wp2_with fail;refine TK.out.mono ?_;intro r w1 hp;obtain⟨hr,X2,hP1⟩:=HP.out.act hp;subst hr;have hb1:Below w1.heap.size w1 (w1.alloc (bO o)):=by unfold bO;exact jY
   have hPb:=hP1.go hb1;have LB:jR (w1.alloc (bO o)) w1.heap.size [.int .i64 o.1,.int .i64 o.2]:=jR.mk_ w1 [.int .i64 o.1,.int .i64 o.2] 40 rfl;obtain⟨Wb,hWb⟩:=eX (w1.alloc (bO o));obtain⟨b9,hb9⟩:=eX w1.heap.size;rw[hWb] at hPb LB;rw[hb9] at LB;have x0:=LB.gC 0;have x1:=LB.gC 1;have xl:=LB.lt;have x2:=hPb.c.gC 2;have xf:=hPb.c.f 2 (by simp[jV]);have xL:=hPb.c.lt;have HPB:=ah hPb;have HLB:=ah LB;have hpp:=(hP1.run.l _ hP1.mem.1).2;have hn9: ∀y∈jS (Value.slice q i k),y<w1.heap.size:=fun y hy=>(hP1.run.l y (hP1.mem.2 y hy)).2
   rw[hb9] at hn9;have HN9:=ah hn9;clear hp hP1 TK hPb LB hb1 hn9;by_cases h0:c=0
   ·subst h0
    unfold bO at hWb;have i16:i≤70000:=om;have NE: ¬(pq=b9):=om;have NE': ¬(b9=pq):=fun r=>NE r.symm
    go_wp2_with fail;clear hWb hb9;refine kE (S:=(fun w'=>w'.cell? ⟨pq,2,none⟩=some (.slice q i k)∧w'.cell? ⟨b9,0,none⟩=some (.int .i64 o.1)∧w'.cell? ⟨b9,1,none⟩=some (.int .i64 o.2))) 8 #[false,false,false,false,false,false,false,false] rfl kR kR (by(try dsimp only);go_keep) (fun hHeld=> ?_);simp only[aQ,aV];refine tk 0 ?_;refine tk 1 ?_;refine tk 2 ?_;refine tk 3 ?_;refine tk 4 ?_;refine tk 5 ?_;refine wpAnyH_ready (rs:=[6]) kR sI ?_;refine aR (jT rfl) (fun K hK=> ?_) aX;go_simp
    refine hkO hK fun hHeld=> ?_
    clear hK K;refine wpAnyH_ready (rs:=[7]) kR sI ?_;refine aR (jT rfl) (fun K hK=> ?_) aX;obtain⟨i1,i2,i3,i4,i5,i6,l,i7,i8⟩:=HI.out;have hD:=HPB.out.go (show Below Wb.heap.size Wb (Wb.alloc (.cells #[.int .i64 o.1,.int .i64 o.2] 40)).drew from jY);have hrow:=hD.row;rw[i3] at hrow;refine oI uh (base:=w.heap.size) (ms:=[.int .i64 o.1,.int .i64 o.2]) rf (.tmp 59) (.tmp 61) rf rf rf hrow rfl (fun j u hj=>oK Wb _ _ _ j u hj) (oL _ _) i16 (by have:=hD.run.k.size;exact this) ?_;intro q4 k4 w4 kV hg4 hz4;have c4:=hD.c.keep (kJ hg4) hD.ne;have u2:=c4.gC 2;have uf:=c4.f 2 (by simp[jV]);have ul:=c4.lt;have n9:b9∉jS (Value.slice q i k):=fun r=>by have:=HN9.out b9 r;omega
    have L9:=(HLB.out.go (show Below Wb.heap.size Wb (Wb.alloc (.cells #[.int .i64 o.1,.int .i64 o.2] 40)).drew from jY)).keep (kJ hg4) n9;have y0:=L9.gC 0;have y1:=L9.gC 1;have HD:=ah hD;have HG4:=ah hg4;have HZ4:=ah hz4;have HO4:Hid (w4.ownsRow w.heap.size 40 2 (.slice q4 (i+1) k4) (i+1) (l8 (R++[o]))):=by rw[lY];exact kV
    rcases MoI.take hO.out i1 i7 0 v true with⟨j1,j2,j3⟩|⟨j1,_⟩;rotate_left
    ·rw[HT.out] at j1;exact absurd rfl j1
    have ti:=sw (mn:=mn) (O:=O) (k:=0) (v:=v) (u:=true) hO.out i1;have th:(takeD mn O e d' 0 v true).1.H.length=d'.H.length:=uo;have INV:Hid (pU e dn∧mM mn O e v n d []=mM mn O e v (n-(i+1)) dn (R++[o])∧(R++[o]).length=i+1∧(R++[o]).Nodup∧(∀x∈R++[o],qJ x)∧0<dn.H.length∧∃l,MoI e l dn∧∀x∈R++[o],x∈l):=by
     have e1:n-i=(n-(i+1))+1:=om;rw[e1,wV j1] at i2;rw[HT.out] at i2 ti j2 j3 th;have hoR:o∉R:=fun q=>j2 (i8 o q)
     have hs: ∀x∈R++[o],x∈l++[o]:=fun x hx=>by
      rcases aD.1 hx with q|q
      ·exact av _ (i8 x q)
      ·exact aj _ q
     refine⟨ti,i2,by simp[i3],?_,fun x hx=>Ke ti.c ((j3.iff x).2 (.inl (hs x hx))),by rw[th];exact i6,l++[o],j3,hs⟩;rw[bF];exact⟨i4,sI,fun a ha b hb=>by simp at hb;subst hb;exact fun q=>hoR (q▸ha)⟩
    have I3:=ah i3;clear kV hg4 hz4 hD c4 L9 n9 i1 i2 i3 i4 i5 i6 i7 i8 j1 j2 j3 ti th hrow;refine hkO hK fun hHeld=> ?_
    clear hK K;refine wpAnyH_done kR ?_ _;simp only[oz,aP,aU];clear hHeld x0 x1 x2 xf xL xl;go_wp2;go_roundw;case rel=>
     obtain⟨L2,X3,hP5⟩:=HD.out.app I3.out.symm HO4.out HG4.out HZ4.out rfl;exact⟨i+1,L2,X3,dn,R++[o],q4,k4,om,by go_num,hP5,INV⟩
    case measure=>simp[intOf];omega
   ·have hc0:(0:Int)<(c:Int):=by omega
    have hcd:decide ((0:Int)<(c:Int))=true:=dQt hc0;have HC0:=ah h0;have hc1:0<c:=om;have hcd1:decide (0<c)=true:=dQt hc1;unfold bO at hWb;have NE: ¬(pq=b9):=om;have NE': ¬(b9=pq):=fun r=>NE r.symm
    obtain⟨i1,i2,i3,i4,i5,i6,l,i7,i8⟩:=HI.out;have I5:=ah i5;have I3:=ah i3;have FILL:Hid (mM mn O e v n d []=(mF e dn R,[],c)):=by
     have e1:n-i=(n-(i+1))+1:=om;rw[e1,Gb (by rw[HT.out];exact h0)] at i2;rw[HT.out] at i2;exact i2
    have WM:Hid (Gv E X F w pq n L X2 (mF e dn (R.take 0)) R (.slice q i k) Wb):=HPB.out;have ALL:Hid (R.take i=R):=by show _=_;rw[←I3.out];simp
    clear i1 i2 i3 i4 i5 i6 i7 i8 x0 x1 xl h0;go_wp2_with fail;clear hWb hb9 x2 xf xL;go_loopw [12] (fun jv ws=>∃(j:Nat) (X3:List Nat),j≤i∧jv= .int .i64 j∧Hid (Gv E X F w pq n L X3 (mF e dn (R.take j)) R (.slice q i k) ws)) (fun jv _=>i-(intOf jv).toNat);case atStart=>exact⟨0,X2,bq _,by go_num,WM⟩
    case round=>
     obtain⟨j,X3,hji,rfl,HQ⟩:=hrel;have z2:=HQ.out.c.gC 2;have zL:=HQ.out.c.lt;by_cases hjt:j<i
     ·obtain⟨a,ha⟩: ∃a,R[j]?=some a:=⟨R[j]'(by rw[I3.out];exact hjt),aA _⟩
      have ro:=qX (X:=[]) HQ.out.row (fun g _ r=>by cases r);obtain⟨g,off',eg,_,gl,y0,y1⟩:=ro.at ha;subst eg;have GV:=ah (E.give 0 a HQ.out.run.t);have HA:=ah ha;have hji':(j:Int)<(i:Int):=om;have hj0:(0:Int)≤(j:Int):=om;clear ha ro;go_wp2_with fail;refine GV.out.mono ?_;intro r w5 hp;obtain⟨hr,X5,p5⟩:=HQ.out.act hp;subst hr;rw[←uL HA.out] at p5;have HP5:=ah p5;clear p5 GV y0 y1 hp z2 zL;go_wp2;go_roundw;case rel=>exact⟨j+1,X5,om,by go_num,HP5⟩
      case measure=>simp[intOf];omega
     ·obtain rfl:j=i:=by omega
      have HQ':=HQ.out;rw[ALL.out] at HQ';have HQ2:=ah HQ';clear HQ' HQ;go_wp2;go_ret2
      rw[FILL.out];exact .inl ⟨HC0.out,HQ2.out.run.fin⟩
  ·obtain rfl:i=n:=by omega
   go_wp2;go_ret2
   obtain⟨i1,i2,i3,i4,i5,i6,l,i7,i8⟩:=HI.out;have e0:i-i=0:=om;rw[e0] at i2;rw[i2];refine .inr ⟨rfl,pq,rfl,HPQ.out,HP.out.fin ?_ hXl.out hFX.out hB0.out⟩;exact⟨i1,⟨l,i7,fun x hx=>i8 x (by simpa[Po.obs,uq] using hx)⟩,by simpa[Po.obs,uq] using i4,⟨n1,n16⟩,by show R.length≤i;omega,by simp[uq],List.Pairwise.nil,fun t q=>(by cases q),dR,fun g q=>(by cases q),fun g q=>(by cases q),bZ _⟩
end
theorem jU {pq y:Nat} {vr vt vw vg:Value}:y∈Ac pq vr vt vw vg↔y=pq∨y∈jS vr∨y∈jS vt∨y∈jS vw∨y∈jS vg:=by
 unfold Ac;simp
section
variable {B B':Nat} {S:List Nat} {w w':World} {pq pd:Nat} {vr vt vw vg vr' vt' vw' vg':Value} {p p':Po}
theorem za.keep (h:za B w pq pd vr vt vw vg p) (k:Keep S w w') (hs: ∀s∈S,s∉Ac pq vr vt vw vg):za B w' pq pd vr vt vw vg p:=
 ⟨h.c.keep k fun q=>hs _ q (jU.2 (.inl rfl)),jQ h.r k fun s q r=>hs s q (jU.2 (.inr (.inl r))),jQ h.t k fun s q r=>hs s q (jU.2 (.inr (.inr (.inl r)))),jQ h.ow k fun s q r=>hs s q (jU.2 (.inr (.inr (.inr (.inl r))))),jQ h.g k fun s q r=>hs s q (jU.2 (.inr (.inr (.inr (.inr r))))),h.nd,
  fun y hy=>⟨(h.lim y hy).1,aC (h.lim y hy).2 k.size⟩⟩
theorem za.below (h:za B w pq pd vr vt vw vg p) (k:Below w.heap.size w w'):za B w' pq pd vr vt vw vg p:=h.keep (Keep.of (S:=[]) k) (fun _ q=>by cases q)
end
section
variable {pd e:Nat} {mn:Int} {O:List (List Int)} {w0:World} {E:vC pd e mn O w0} {X X0 F G Y L N:List Nat} {w w' W W':World} {pq b:Nat} {vr vt vw vg vr' vt' vw' vg':Value} {p p':Po} {d:De} {r:Value} {en:Ending}
theorem Gu.go (h:Gu E X F pq vr vt vw vg p w) (k:Below w.heap.size w w'):Gu E X F pq vr vt vw vg p w':=⟨E.go h.s k,h.b.below k,h.f⟩
theorem Gu.other (h:Gu E X F pq vr vt vw vg p w) (k:Keep G w w') (hs: ∀g∈G,g∈F):Gu E X F pq vr vt vw vg p w':=
 ⟨E.other h.s k fun g t=>aj _ (hs g t),h.b.keep k fun s t=>h.f s (hs s t),h.f⟩
theorem Gu.wB (h:Gu E X F pq vr vt vw vg p w) (hs: ∀g∈G,g∈F):Gu E X G pq vr vt vw vg p w:=
 ⟨E.wB h.s fun g t=>(aD.1 t).elim (fun u=>av _ u) (fun u=>aj _ (hs g u)),h.b,fun f t=>h.f f (hs f t)⟩
theorem Gu.uS (h:Gu E X F pq vr vt vw vg p w) (k:Keep G w w') (hs: ∀g∈G,g∈F) (hY: ∀y∈Y,w.heap.size≤y∧y<w'.heap.size):Gu E (Y++X) (Y++F) pq vr vt vw vg p w':=by
 refine⟨E.wB (E.uS (Y:=Y) h.s k (fun g t=>aj _ (hs g t)) hY) fun g t=> ?_,h.b.keep k fun s t=>h.f s (hs s t),fun f t r=> ?_⟩
 ·rcases aD.1 t with u|u
  ·exact aj _ (av _ u)
  ·rcases aD.1 u with u|u
   ·exact av _ u
   ·exact aj _ (aj _ u)
 ·rcases aD.1 t with u|u
  ·have:=(hY f u).1;have:=(h.b.lim f r).2;omega
  ·exact h.f f u r
def vD (E:vC pd e mn O w0) (pq:Nat):FEnv Po w0 where
 S X F p w:=∃vr vt vw vg,Gu E X F pq vr vt vw vg p w
 bel:=fun⟨_,_,_,_,q⟩=>E.bel q.s
 lim:=fun⟨_,_,_,_,q⟩=>E.lim q.s
 sU:=fun⟨_,_,_,_,q⟩ f hf=>E.sU q.s f (aj _ hf)
 go:=fun⟨_,_,_,_,q⟩ k=>⟨_,_,_,_,q.go k⟩
 other:=fun⟨_,_,_,_,q⟩ k hs=>⟨_,_,_,_,q.other k hs⟩
 uS:=fun⟨_,_,_,_,q⟩ k hs hy=>⟨_,_,_,_,q.uS k hs hy⟩
 wB:=fun⟨_,_,_,_,q⟩ hg=>⟨_,_,_,_,q.wB hg⟩
def jX (E:vC pd e mn O w0) (pq:Nat):FEnv Po w0 where
 S X F p w:=rO E X F pq p w
 bel h:=(vD E pq).bel h.1
 lim h:=(vD E pq).lim h.1
 sU h:=(vD E pq).sU h.1
 go h k:=⟨(vD E pq).go h.1 k,h.2⟩
 other h k hs:=⟨(vD E pq).other h.1 k hs,h.2⟩
 uS h k hs hy:=⟨(vD E pq).uS h.1 k hs hy,h.2⟩
 wB h hg:=⟨(vD E pq).wB h.1 hg,h.2⟩
structure pI (E:vC pd e mn O w0) (pq:Nat) (X0 F:List Nat) (w:World) (L X:List Nat) (vr vt vw vg:Value) (p:Po) (W:World):Prop where
 run:pQ (vD E pq) X0 F w L X p W
 at_:Gu E X (L++F) pq vr vt vw vg p W
end
section
variable {σ τ σ' τ':Type} {w0 w1:World} {E:FEnv σ w0} {D:FEnv τ w1} {E':FEnv σ' w0} {D':FEnv τ' w1} {w W W':World} {L X F Y G X' Y':List Nat} {d:σ} {m:τ} {d':σ'} {m':τ'} {b:Nat} {r:Value} {en:Ending}
theorem Duo.turn1 (h:Duo E D w L X F Y G d m W) (k1:E'.S X' F d' W') (k2:Keep (off X F) W W') (k3: ∀x∈X',x∈X∨W.heap.size≤x):lT E' D w L d' m W':=by
 have z:=h.bel.size;have hN: ∀y∈X'.filter (fun y=>decide (W.heap.size≤y)),W.heap.size≤y∧y<W'.heap.size:=fun y q=>by
  obtain⟨q1,q2⟩:=bG.1 q;exact⟨of_decide_eq_true q2,(E'.lim k1 y q1).2⟩
 refine⟨X',F,_,_,k1,D.uS h.t k2 (fun s q=>h.a s q) hN,fun x q=> ?_,fun x q=> ?_,fun b q=>⟨(h.l1 b q).1,aj _ (h.l1 b q).2⟩,fun b q=>⟨(h.l2 b q).1,aC (h.l2 b q).2 k2.size⟩,h.bel.trans (k2.below z fun s q=> ?_),h.lo⟩
 ·obtain⟨q1,q2⟩:=jW.1 q
  rcases k3 x q1 with t|t
  ·exact aj _ (h.a x (jW.2 ⟨t,q2⟩))
  ·exact av _ (bG.2 ⟨q1,dQt t⟩)
 ·obtain⟨q1,q2⟩:=jW.1 q
  rcases aD.1 q1 with u|u
  ·exact absurd (av _ u) q2
  ·exact h.b x (jW.2 ⟨u,fun v=>q2 (aj _ v)⟩)
 ·have:=(E.lim h.s s (jW.1 q).1).1;have:=h.lo.1;omega
theorem Duo.turn2 (h:Duo E D w L X F Y G d m W) (k1:D'.S Y' G m' W') (k2:Keep (off Y G) W W') (k3: ∀x∈Y',x∈Y∨W.heap.size≤x):lT E D' w L d m' W':=by
 have z:=h.bel.size;have hN: ∀y∈Y'.filter (fun y=>decide (W.heap.size≤y)),W.heap.size≤y∧y<W'.heap.size:=fun y q=>by
  obtain⟨q1,q2⟩:=bG.1 q;exact⟨of_decide_eq_true q2,(D'.lim k1 y q1).2⟩
 refine⟨_,_,Y',G,E.uS h.s k2 (fun s q=>h.b s q) hN,k1,fun x q=> ?_,fun x q=> ?_,fun b q=>⟨aj _ (h.l1 b q).1,(h.l1 b q).2⟩,fun b q=>⟨(h.l2 b q).1,aC (h.l2 b q).2 k2.size⟩,h.bel.trans (k2.below z fun s q=> ?_),h.lo⟩
 ·obtain⟨q1,q2⟩:=jW.1 q
  rcases aD.1 q1 with u|u
  ·exact absurd (av _ u) q2
  ·exact h.a x (jW.2 ⟨u,fun v=>q2 (aj _ v)⟩)
 ·obtain⟨q1,q2⟩:=jW.1 q
  rcases k3 x q1 with t|t
  ·exact aj _ (h.b x (jW.2 ⟨t,q2⟩))
  ·exact av _ (bG.2 ⟨q1,dQt t⟩)
 ·have:=(D.lim h.t s (jW.1 q).1).1;have:=h.lo.2;omega
end
section
variable {w w' w3 W:World} {X L:List Nat} {ev:Nat→Addr} {pd pc pz gh pdm ghm pcm pm gN e pp pq:Nat} {mn lw hi:Int} {O:List (List Int)} {d m:De} {p:Po}
theorem WS (hE:qC w3.heap.size ev w3) (hb:Below w.heap.size w w3) (h:DZX w3 X [] pd pc pz gh pdm ghm pcm pm gN e mn lw hi O d m w') (hm:pU e m):
 lT (VZ (pd:=pd) (pc:=pc) (pz:=pz) (e:=e) (mn:=mn) (O:=O) gh lw hi hE).dr.toFEnv (envR w3 pdm ghm pcm pm gN e mn lw hi O).toFEnv w [] d m w':=by
 obtain⟨M,v,A,V,vp,U,q⟩:=h;have q1:=q.s;rw[dw] at q1;refine⟨X,rds pdm ghm pcm pm gN A M,X,off X (rds pdm ghm pcm pm gN A M),drS.of (E:=(VZ (pd:=pd) (pc:=pc) (pz:=pz) (e:=e) (mn:=mn) (O:=O) gh lw hi hE).toFEnv) q1,⟨M,v,A,V,vp,U,q.r,fun f hf=>jW.1 hf,q.s.lim,q.s.bel,hm⟩,fun x hx=>hx,fun x hx=> ?_,fun b q=>(by cases q),fun b q=>(by cases q),hb.trans (q.s.bel.mono hb.size),⟨hb.size,hb.size⟩⟩;by_cases t:x∈rds pdm ghm pcm pm gN A M
 ·exact t
 ·exact absurd (jW.2 ⟨(jW.1 hx).1,t⟩) (jW.1 hx).2
end
theorem wW:ElS 59 3 (.int .i64 0) 1 8:=⟨dK,kR,rfl,om,om⟩
section
variable {B:Nat} {E:TypeId} {s n cap g:Nat} {xs:List Value} {w W:World}
theorem AO (h:w.ownsRow B E s (.slice (some ⟨g,0,none⟩) n cap) n xs) (k:Nat) (hW:Below w.heap.size w W):uP W (some ⟨g,k,none⟩) (xs.drop k):=.inr ⟨_,rfl,fun j u hj=>by
 rw[addr_add];rw[cO] at hj;have:=(jQ h (Keep.of (S:=[]) hW) (fun s q=>by cases q)).cells rfl _ u hj;rw[addr_add,bK] at this;exact this⟩
theorem AP (h:w.ownsRow B E s (.slice (some ⟨g,0,none⟩) n cap) n xs) (m:Nat) (hW:Below w.heap.size w W):uP W (some ⟨g,0,none⟩) (xs.take m):=.inr ⟨_,rfl,fun j u hj=>by
 rw[addr_add,bK];rw[fC] at hj;split at hj
 ·have:=(jQ h (Keep.of (S:=[]) hW) (fun s q=>by cases q)).cells rfl _ u hj
  rw[addr_add,bK] at this;exact this
 ·cases hj⟩
end
theorem vS (l m:List Int):ints (l++m)=ints l++ints m:=by simp[ints]
theorem Ir (l:List Int) (i:Nat):ints (l.take i)=(ints l).take i:=by simp[ints,List.map_take]
theorem Iu (l:List Int) (i:Nat):ints (l.drop i)=(ints l).drop i:=by simp[ints,List.map_drop]
theorem sK (l:List Int):(ints l).length=1*l.length:=by simp[ints]
section
variable {pd e:Nat} {mn:Int} {O:List (List Int)} {w0:World} {E:vC pd e mn O w0} {X F:List Nat} {w:World} {pq:Nat} {p:Po}
theorem rH {w:World} {B:Nat} {v:Value} {xs:List Int} (h:w.ownsRow B 3 1 v xs.length (ints xs)):nO [] w v (ints xs):=qA (X:=[]) (by rw[show(ints xs).length=xs.length by simp[ints]];exact h) (fun x hx=>by cases hx)
end
theorem okN_free {k:Int} {x:Nd} (h:Inv x.n x.F x.T) (k0:0≤k):okN 0 k false x=okN 0 k true x:=by
 unfold okN mayN;cases hb:nD k x.F with
 |none=>simp
 |some b=>
  have h1:=h.Fv k0 hb;have h2:=p9 (uz k b x.F);have:decide ((0:Int)≤oJ x.F-sz k)=true:=dQt om;rw[this];simp
theorem TH {O:List (List Int)} {L:List Nd} (hL: ∀x∈L,Inv x.n x.F x.T) (v k:Int):lQ 0 O L v k false=lQ 0 O L v k true:=by
 unfold lQ;split
 ·rfl
 ·rename_i hv
  have:wK 0 k false L=wK 0 k true L:=by
   funext D
   unfold wK;congr 1
   funext j
   unfold D5;split
   ·rename_i x hx;exact okN_free (hL x (aF hx)) om
   ·rfl
  rw[this]
theorem TJ {O:List (List Int)} {e:Nat} {c:Ca} (h:uR e c) (v:Int):takeC 0 O e c v false=takeC 0 O e c v true:=by
 unfold takeC;rw[TH h.zi]
theorem zN {O:List (List Int)} {e:Nat} {d:De} (h:pU e d) (k v:Int):takeD 0 O e d k v false=takeD 0 O e d k v true:=by
 unfold takeD;rw[TJ h.c]
structure EJ (p e n:Nat) (d:De):Prop where
 inv:pU e d
 full:qV p e n d.c
 hands:d.H=[([],[])]
 pile:d.P=[]
section
variable {p e n m:Nat} {d:De} {l R:List Ob} {q:Po} {o:Ob}
structure TL (p e r:Nat) (out:List Ob) (q:Po):Prop where
 d:EJ p e (q.R.length+q.T.length) q.d
 t:q.T=out
 r:q.R.length≤r∧(q.R.length=r∨q.R.length+q.T.length=p*kL e)
 w:q.W=[]
 g:q.G=[]
 la:q.last=0
 cl:q.cl=false
def upTo (a n:Nat):List Int:=(List.range n).map fun i=>((a+i+1:Nat):Int)
structure Dq (p e:Nat) (out:List Ob) (s k:Nat) (q:Po):Prop where
 d:EJ p e (p*kL e) q.d
 t: ∀x∈out,x∈q.T
 r:q.R=[]
 w:q.W=upTo s k
 g:q.G=[]
 la:q.last=((s+k:Nat):Int)
 cl:q.cl=false
end
theorem TM {B:Nat} {ev:Nat→Addr} (i:Nat) (n:Int) (w:World) (hE:qC B ev w) (i2:i≤10):
 Calls prog 11 #[kM ev i,.int .i64 n] w fun e w'=>e= .returned (.bool (decide ((i:Int)=n)))∧Below w.heap.size w w':=by
 obtain⟨m,hm⟩: ∃m:Int,m=(i:Int):=⟨_,rfl⟩;have cc:=code_any i w hE i2;rw[←hm] at cc;have CC:=ah cc;clear cc;rw[←hm];clear hm;generalize kM ev i=x at CC;by_cases h:m=n
 ·rw[dQt h]
  have hd:(m==n)=true:=by simpa using h
  clear h;go_in
  go_wp2_with fail;refine CC.out.mono ?_;rintro e w1 ⟨rfl,hb1⟩;obtain⟨c1,f1⟩:=zy hb1;have z1:=hb1.size;try simp at z1 c1 f1
  go_wp2;go_ret;exact⟨rfl,jY⟩
 ·rw[dQf h]
  have hd:(m==n)=false:=by simpa using h
  clear h;go_in
  go_wp2_with fail;refine CC.out.mono ?_;rintro e w1 ⟨rfl,hb1⟩;obtain⟨c1,f1⟩:=zy hb1;have z1:=hb1.size;try simp at z1 c1 f1
  go_wp2;go_ret;exact⟨rfl,jY⟩
theorem sM {B:Nat} {ev:Nat→Addr} (i:Nat) (n:Int) (w:World) (hE:qC B ev w) (i2:i≤10) (h:(i:Int)=n):
 Calls prog 11 #[kM ev i,.int .i64 n] w fun e w'=>e= .returned (.bool true)∧Below w.heap.size w w':=by
 have:=TM i n w hE i2;rwa [dQt h] at this
section
variable {σ:Type} {w w1 W:World} {L:List Nat} {pd e pq:Nat} {mn:Int} {O:List (List Int)} {D:vC pd e mn O w1} {w0:World} {P:FEnv σ w0} {s:σ} {p:Po}
end
section
variable {σ τ:Type} {w0 w1 w W W':World} {E:FEnv σ w0} {D:FEnv τ w1} {L:List Nat} {d:σ} {m:τ} {v v':Value}
end
section
variable {w w0 w1 W:World} {L:List Nat} {pd pc pz pdm e:Nat} {mn:Int} {O:List (List Int)} {ev:Nat→Addr} {E:sG pd pc pz e mn O ev w0} {D:vC pdm e mn O w1} {τ:Type} {T:FEnv τ w1} {d:De} {m:τ} {l:List Ob} {p:Po}
theorem wX (n:Nat) (h:lT E.dr.toFEnv T w L d m W) (hn:1≤n∧n≤16) (hm:MoI e l d) (hH:0<d.H.length) (h0:(mM mn O e 0 n d []).2.2=0):
 Calls prog 9 #[.pointer (some ⟨pd,0,none⟩),.int .i64 0,.int .i64 n] W fun en W'=>∃pp,en= .returned (.tuple #[.pointer (some ⟨pp,0,none⟩),.nilIface])∧lT (kQ E.dr pp) T w L (uq (mM mn O e 0 n d []).1 n (mM mn O e 0 n d []).2.1) m W':=by
 obtain⟨X,F,Y,G,q⟩:=h;refine(Gd 0 n q.s hn hm hH).mono fun en W' hp=> ?_
 rcases hp with⟨t,_⟩|⟨_,pp,t1,t2,X',k1,k2,k3,k4⟩
 ·exact absurd h0 t
 ·exact⟨pp,t1,q.turn1 (E':=kQ E.dr pp) k1 k2 k3⟩
end
section
variable {w w0 w1 W:World} {L:List Nat} {pdm e:Nat} {mn:Int} {O:List (List Int)} {D:vC pdm e mn O w1} {σ:Type} {P:FEnv σ w0} {s:σ} {d:De} {l:List Ob}
theorem vU (n:Nat) (h:lT P D.toFEnv w L s d W) (hn:1≤n∧n≤16) (hm:MoI e l d) (hH:0<d.H.length) (h0:(mM mn O e 0 n d []).2.2=0):
 Calls prog 10 #[.pointer (some ⟨pdm,0,none⟩),.int .i64 0,.int .i64 n] W fun en W'=>∃pq,en= .returned (.tuple #[.pointer (some ⟨pq,0,none⟩),.int .i64 0])∧lT P (jX D pq) w L s (uq (mM mn O e 0 n d []).1 n (mM mn O e 0 n d []).2.1) W':=by
 obtain⟨X,F,Y,G,q⟩:=h;refine(Iq 0 n q.t hn hm hH).mono fun en W' hp=> ?_
 rcases hp with⟨t,_⟩|⟨_,pq,t1,t2,X',k1,k2,k3,k4⟩
 ·exact absurd h0 t
 ·exact⟨pq,t1,q.turn2 (D':=jX D pq) k1 k2 k3⟩
end
