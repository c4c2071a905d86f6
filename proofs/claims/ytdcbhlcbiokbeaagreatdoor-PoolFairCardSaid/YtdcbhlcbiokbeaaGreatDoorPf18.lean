/- Lemmas and contracts for the claim's last text: RefT, RefM, RZ, RC, RCGive, RCShrink, RCTake, CZ, RD, DZ, RDNew. -/
import Derived.Test.YtdcbhlcbiokbeaaGreatDoorPf01
import Derived.Test.YtdcbhlcbiokbeaaGreatDoorPf17
set_option linter.unusedSimpArgs false
set_option linter.unusedVariables false
set_option maxHeartbeats 16000000
set_option maxRecDepth 100000
namespace Go.Proofs.YtdcbhlcbiokbeaaGreatDoor
section
open Go.RowKit
def zN (X:List Nat) (w:World) (v:Value) (l:List (Int×Int)):Prop:=
 (v= .slice none 0 0∧l=[])∨∃g cap,v= .slice (some ⟨g,0,none⟩) l.length cap∧l.length≤cap∧cap≤maxLen∧g∉X∧g<w.heap.size∧RowC w g l
theorem zN.keep {X S:List Nat} {w w':World} {v:Value} {l:List (Int×Int)} (h:zN X w v l) (k:Keep S w w') (hs: ∀s∈S,s∈X∨w.heap.size≤s):zN X w' v l:=by
 rcases h with h|⟨g,cap,h1,h2,h3,h4,h5,h6⟩
 ·exact .inl h
 ·exact .inr ⟨g,cap,h1,h2,h3,h4,aF h5 k.size,h6.keep k h5 fun q=>by rcases hs g q with r|r;(·exact h4 r);(·omega)⟩
theorem zN.of {X:List Nat} {w w':World} {v:Value} {l:List (Int×Int)} (h:OwnB w w' v l) (hX: ∀x∈X,x<w.heap.size):zN X w' v l:=by
 rcases h.rowT with h|⟨g,cap,h1,h2,h3,h4,h5,h6⟩
 ·exact .inl h
 ·exact .inr ⟨g,cap,h1,h2,h3,fun q=>by have:=hX g q;omega,h5,h6⟩
theorem zN.more {X Y:List Nat} {w:World} {v:Value} {l:List (Int×Int)} (h:zN X w v l) (hY: ∀y∈Y,y∈X∨w.heap.size≤y):zN Y w v l:=by
 rcases h with h|⟨g,cap,h1,h2,h3,h4,h5,h6⟩
 ·exact .inl h
 ·exact .inr ⟨g,cap,h1,h2,h3,fun q=>by rcases hY g q with r|r;(·exact h4 r);(·omega),h5,h6⟩
theorem OwnB.isSlice {w w':World} {v:Value} {l:List (Int×Int)} (h:OwnB w w' v l): ∃p m c,v= .slice p m c:=by
 rcases h.rowT with⟨h,_⟩|⟨g,cap,h,_⟩
 ·exact⟨_,_,_,h⟩
 ·exact⟨_,_,_,h⟩
structure uX (X:List Nat) (w:World) (pm:Nat) (n:Int) (vF vT:Value) (F T:List (Int×Int)):Prop where
 lt:pm<w.heap.size
 mem:pm∈X
 c0:w.cell? ⟨pm,0,none⟩=some (.int .i64 n)
 c1:w.cell? ⟨pm,1,none⟩=some vF
 c2:w.cell? ⟨pm,2,none⟩=some vT
 f1:w.frozen? ⟨pm,1,none⟩=false
 f2:w.frozen? ⟨pm,2,none⟩=false
 rF:zN X w vF F
 rT:zN X w vT T
theorem uX.keep {X S:List Nat} {w w':World} {pm:Nat} {n:Int} {vF vT:Value} {F T:List (Int×Int)} (h:uX X w pm n vF vT F T) (k:Keep S w w') (hs: ∀s∈S,(s∈X∧s≠pm)∨w.heap.size≤s):uX X w' pm n vF vT F T:=by
 have hn:pm∉S:=fun q=>by rcases hs pm q with⟨_,r⟩|r;(·exact r rfl);(·have:=h.lt;omega)
 have hs': ∀s∈S,s∈X∨w.heap.size≤s:=fun s q=>(hs s q).imp And.left id
 exact⟨aF h.lt k.size,h.mem,(k.cell h.lt hn).trans h.c0,(k.cell h.lt hn).trans h.c1,(k.cell h.lt hn).trans h.c2,(k.frozen h.lt hn).trans h.f1,(k.frozen h.lt hn).trans h.f2,h.rF.keep k hs',h.rT.keep k hs'⟩
theorem zN.sub {X Y:List Nat} {w:World} {v:Value} {l:List (Int×Int)} (h:zN Y w v l) (hX: ∀x∈X,x∈Y):zN X w v l:=by
 rcases h with h|⟨g,cap,h1,h2,h3,h4,h5,h6⟩
 ·exact .inl h
 ·exact .inr ⟨g,cap,h1,h2,h3,fun q=>h4 (hX g q),h5,h6⟩
theorem uX.more {X Y:List Nat} {w:World} {pm:Nat} {n:Int} {vF vT:Value} {F T:List (Int×Int)} (h:uX X w pm n vF vT F T) (hm:pm∈Y) (hY: ∀y∈Y,y∈X∨w.heap.size≤y):uX Y w pm n vF vT F T:=
 ⟨h.lt,hm,h.c0,h.c1,h.c2,h.f1,h.f2,h.rF.more hY,h.rT.more hY⟩
theorem uX.sub {X Y:List Nat} {w:World} {pm:Nat} {n:Int} {vF vT:Value} {F T:List (Int×Int)} (h:uX Y w pm n vF vT F T) (hm:pm∈X) (hX: ∀x∈X,x∈Y):uX X w pm n vF vT F T:=
 ⟨h.lt,hm,h.c0,h.c1,h.c2,h.f1,h.f2,h.rF.sub hX,h.rT.sub hX⟩
def bI:Option (Nat×(Int×Int))→Int
 |none=> -1
 |some (i,_)=>i
def RTakePost (X:List Nat) (pm:Nat) (n k:Int) (F T:List (Int×Int)) (w:World) (e:Ending) (w':World):Prop:=
 (jA k F=none∧e= .returned (.tuple #[.agg #[.int .i64 0,.int .i64 0],.bool false])∧Below w.heap.size w w')∨
   ∃x vF' vT',jA k F=some x∧e= .returned (.tuple #[.agg #[.int .i64 x.1,.int .i64 k],.bool true])∧uX X w' pm n vF' vT' (oV k x F) (lT x.1 k T)∧Keep [pm] w w'
end
section
open Go.RowKit
theorem yu {X:List Nat} (n:Int) (w:World) (n1:1≤n) (n2:n≤256) (hX: ∀x∈X,x<w.heap.size):
 Calls Tryz.prog 113 #[.int .i64 n] w fun e w'=>∃pm v,e= .returned (.pointer (some ⟨pm,0,none⟩))∧uX (pm::X) w' pm n v (.slice none 0 0) (mq 0 n) []∧w.heap.size≤pm∧Below w.heap.size w w':=by
 have HC:=ah (Ae 0 n w om om om)
 have HX:=ah hX
 clear hX
 go_enter Tryz.func113,Tryz.ntmps113
 go_wp2_with fail
 refine HC.out.mono ?_
 rintro e w1 ⟨v,rfl,ho⟩
 have z1:=ho.2.size
 have hb1:=ho.2
 have row:=zN.of ho HX.out
 obtain⟨t1,t2,t3,rfl⟩:=ho.isSlice
 have HR:=ah row
 clear row ho HC
 go_wp2
 go_ret
 refine⟨_,.slice t1 t2 t3,rfl,⟨sI,sI,?_,?_,?_,?_,?_,?_,.inl ⟨rfl,rfl⟩⟩,z1,iq⟩
 ·rw[aJ _ _ _ _ sI];rfl
 ·rw[aJ _ _ _ _ sI];rfl
 ·rw[aJ _ _ _ _ sI];rfl
 ·exact bN _ _ _ _ sI
 ·exact bN _ _ _ _ sI
 ·exact(HR.out.more (Y:=w1.heap.size::X) (fun y hy=>by simp at hy;rcases hy with rfl|hy;(·right;omega);(·left;exact hy))).keep ((Keep.refl [] _).alloc _) (fun s hs=>by cases hs)
end
section
open Go.RowKit
end
section
open Go.RowKit Go.Maps
end
section
open Go.RowKit
attribute [local go_sem ↓] aO aP
def OwnPost (X:List Nat) (n:Int) (F T:List (Int×Int)) (w:World) (e:Ending) (w':World):Prop:=
 ∃(m:Nat) (vF vT:Value),e= .returned (.pointer (some ⟨m,0,none⟩))∧uX (m::X) w' m n vF vT F T∧w.heap.size≤m∧Below w.heap.size w w'
end
section
open Go.RowKit
attribute [local go_sem ↓] aO aP
def nW (M:List Nat):List Value:=M.map fun m=>.pointer (some ⟨m,0,none⟩)
theorem nD (M:List Nat):(nW M).length=M.length:=by simp[nW]
structure RZ (X:List Nat) (w:World) (pm gN:Nat) (mn lw hi:Int) (O:List (List Int)) (M:List Nat) (L:List Nd):Prop where
 z: ∃(vP vN:Value) (kn ko:Nat) (qo:Option Addr),gX w pm [vP,vN,.int .i64 mn,.int .i64 lw,.int .i64 hi,.slice (some ⟨gN,0,none⟩) L.length kn,.slice qo L.length ko]∧L.length≤kn∧kn≤maxLen∧sV X w (.slice qo L.length ko) O
 nodes:gX w gN (nW M)
 len:M.length=L.length
 bud: ∀(i m:Nat) (x:Nd),M[i]?=some m→L[i]?=some x→∃vF vT,uX X w m x.n vF vT x.F x.T
 inv: ∀x∈L,Inv x.n x.F x.T
 mem:pm∈X∧gN∈X
 ne:pm≠gN∧pm∉M∧gN∉M∧M.Nodup
 ord:nM O L.length
 m0:0≤mn∧mn≤lw∧lw≤hi∧hi≤9223372036854775807
theorem RZ.keep {X S:List Nat} {w w':World} {pm gN:Nat} {mn lw hi:Int} {O:List (List Int)} {M:List Nat} {L:List Nd} (h:RZ X w pm gN mn lw hi O M L) (k:Keep S w w') (hs: ∀s∈S,(s∈X∧s≠pm∧s≠gN∧s∉M)∨w.heap.size≤s):RZ X w' pm gN mn lw hi O M L:=by
 obtain⟨vP,vN,kn,ko,qo,h1,h2,h3,h4⟩:=h.z
 have np:pm∉S:=fun q=>by rcases hs pm q with r|r;(·exact r.2.1 rfl);(·have:=h1.lt;omega)
 have ng:gN∉S:=fun q=>by rcases hs gN q with r|r;(·exact r.2.2.1 rfl);(·have:=h.nodes.lt;omega)
 have hX: ∀s∈S,s∈X∨w.heap.size≤s:=fun s q=>(hs s q).imp (fun r=>r.1) id
 refine⟨⟨vP,vN,kn,ko,qo,h1.keep k np,h2,h3,h4.keep k hX⟩,h.nodes.keep k ng,h.len,fun i m x hm hx=> ?_,h.inv,h.mem,h.ne,h.ord,h.m0⟩
 obtain⟨vF,vT,hb⟩:=h.bud i m x hm hx
 exact⟨vF,vT,hb.keep k fun s q=>(hs s q).imp (fun r=>⟨r.1,fun e=>r.2.2.2 (e▸aD hm)⟩) id⟩
theorem RZ.below {X:List Nat} {w w':World} {pm gN:Nat} {mn lw hi:Int} {O:List (List Int)} {M:List Nat} {L:List Nd} (h:RZ X w pm gN mn lw hi O M L) (k:Below w.heap.size w w'):RZ X w' pm gN mn lw hi O M L:=h.keep (Keep.of (S:=[]) k) (fun s q=>by cases q)
theorem RZ.more {X Y:List Nat} {w:World} {pm gN:Nat} {mn lw hi:Int} {O:List (List Int)} {M:List Nat} {L:List Nd} (h:RZ X w pm gN mn lw hi O M L) (hX: ∀x∈X,x∈Y) (hY: ∀y∈Y,y∈X∨w.heap.size≤y):RZ Y w pm gN mn lw hi O M L:=by
 obtain⟨vP,vN,kn,ko,qo,h1,h2,h3,h4⟩:=h.z
 refine⟨⟨vP,vN,kn,ko,qo,h1,h2,h3,h4.more hY⟩,h.nodes,h.len,fun i m x hm hx=> ?_,h.inv,⟨hX _ h.mem.1,hX _ h.mem.2⟩,h.ne,h.ord,h.m0⟩
 obtain⟨vF,vT,hb⟩:=h.bud i m x hm hx
 exact⟨vF,vT,hb.more (hX _ hb.mem) hY⟩
theorem RZ.lt {X:List Nat} {w:World} {pm gN:Nat} {mn lw hi:Int} {O:List (List Int)} {M:List Nat} {L:List Nd} (h:RZ X w pm gN mn lw hi O M L) {m:Nat} (hm:m∈M):m<w.heap.size:=by
 obtain⟨i,hi⟩:=dD hm
 have hl:=(ak.1 hi).1
 obtain⟨vF,vT,hb⟩:=h.bud i m _ hi (aA (show i<L.length by rw[←h.len];exact hl))
 exact hb.lt
end
section
open Go.RowKit
attribute [local go_sem ↓] aO aP
def RGivePost (X:List Nat) (pm gN:Nat) (mn lw hi:Int) (O:List (List Int)) (M:List Nat) (w:World) (r:List Nd×Nat) (e:Ending) (w':World):Prop:=
 e= .returned (.int .i64 r.2)∧RZ X w' pm gN mn lw hi O M r.1∧Keep M w w'
def RTakeZPost (X:List Nat) (pm gN:Nat) (mn lw hi:Int) (O:List (List Int)) (M:List Nat) (w:World) (r:List Nd×Nat×Pl) (e:Ending) (w':World):Prop:=
 e= .returned (.tuple #[plV r.2.2,.int .i64 r.2.1])∧(∃X' M',RZ X' w' pm gN mn lw hi O M' r.1∧(∀x∈X,x∈X')∧(∀x∈X',x∈X∨w.heap.size≤x)∧(∀x∈X',x<w'.heap.size)∧∀m∈M',m∈M∨w.heap.size≤m)∧Keep [gN] w w'
end
section
open Go.RowKit
attribute [local go_sem ↓] aO aP
def hasAt (k:Int) (L:List Nd) (j:Int):Bool:=match L[j.toNat]? with|some x=>xJ k x|none=>false
end
section
open Go.RowKit Go.Maps
attribute [local go_sem ↓] aO aP
def rslab (s:Sl) (gt:Nat):List Value:=[.int .i64 s.nd,.int .i64 s.pg,.int .i64 0,.slice (some ⟨gt,0,none⟩) s.T.length s.T.length]
def RSl (w:World) (p:Nat×Nat) (s:Sl):Prop:=gX w p.1 (rslab s p.2)∧gX w p.2 (bools s.T)
def Dp (pc:Nat) (A:SA):List Nat:=pc::ay A
structure RCB (X:List Nat) (w:World) (pc pm e:Nat) (v:Value) (A:SA) (C:List Sl):Prop where
 c:gX w pc [.pointer (some ⟨pm,0,none⟩),.int .i64 e,v]
 row:jy X w v (lJ A)
 len:A.length=C.length
 sl: ∀(i:Nat) (p:Nat×Nat) (s:Sl),A[i]?=some p→C[i]?=some s→RSl w p s
 mem: ∀y∈Dp pc A,y∈X
 nd:(Dp pc A).Nodup
 vn:v= .slice none 0 0∨∃g n k,v= .slice (some ⟨g,0,none⟩) n k
section
variable {X Y S M:List Nat} {w w':World} {pc pm gN e:Nat} {mn lw hi:Int} {O:List (List Int)} {v v':Value} {A A':SA} {C:List Sl} {c:Ca} {L':List Nd}
theorem RSl.keep {p:Nat×Nat} {s:Sl} (h:RSl w p s) (k:Keep S w w') (h1:p.1∉S) (h2:p.2∉S):RSl w' p s:=⟨h.1.keep k h1,h.2.keep k h2⟩
theorem ay_at {i:Nat} {p:Nat×Nat} (h:A[i]?=some p):p.1∈ay A∧p.2∈ay A:=⟨jR.2 ⟨p,aD h,.inl rfl⟩,jR.2 ⟨p,aD h,.inr rfl⟩⟩
theorem RCB.lt (h:RCB X w pc pm e v A C): ∀y∈Dp pc A,y<w.heap.size:=fun y hy=>by
 rcases aB.1 hy with rfl|q
 ·exact h.c.lt
 ·obtain⟨p,hp,hy⟩:=jR.1 q
  obtain⟨i,hi⟩:=dD hp
  have hl:=(ak.1 hi).1
  obtain⟨s,hs⟩: ∃s,C[i]?=some s:=⟨C[i]'(by rw[←h.len];exact hl),aA _⟩
  have:=h.sl i p s hi hs
  rcases hy with rfl|rfl
  ·exact this.1.lt
  ·exact this.2.lt
theorem RCB.keep (h:RCB X w pc pm e v A C) (k:Keep S w w') (hs: ∀s∈S,s∉Dp pc A∧(s∈X∨w.heap.size≤s)):RCB X w' pc pm e v A C:=
 ⟨h.c.keep k (fun q=>(hs _ q).1 (aG ..)),h.row.keep k (fun s q=>(hs s q).2),h.len,fun i p s hp hs'=>(h.sl i p s hp hs').keep k (fun q=>(hs _ q).1 (au _ (ay_at hp).1)) (fun q=>(hs _ q).1 (au _ (ay_at hp).2)),h.mem,h.nd,h.vn⟩
theorem RCB.more (h:RCB X w pc pm e v A C) (hX: ∀x∈X,x∈Y) (hY: ∀y∈Y,y∈X∨w.heap.size≤y):RCB Y w pc pm e v A C:=
 ⟨h.c,h.row.more hY,h.len,h.sl,fun y hy=>hX y (h.mem y hy),h.nd,h.vn⟩
structure RC (X:List Nat) (w:World) (pc pm gN e:Nat) (mn lw hi:Int) (O:List (List Int)) (M:List Nat) (v:Value) (A:SA) (c:Ca):Prop where
 z:RZ X w pm gN mn lw hi O M c.L
 b:RCB X w pc pm e v A c.C
 ne: ∀y∈Dp pc A,y≠pm∧y≠gN∧y∉M
def rcs (pc pm gN:Nat) (A:SA) (M:List Nat):List Nat:=Dp pc A++pm::gN::M
theorem RZ.memM {L:List Nd} (h:RZ X w pm gN mn lw hi O M L) {m:Nat} (hm:m∈M):m∈X:=by
 obtain⟨i,hi⟩:=dD hm
 have hl:=(ak.1 hi).1
 obtain⟨vF,vT,hb⟩:=h.bud i m _ hi (aA (show i<L.length by rw[←h.len];exact hl))
 exact hb.mem
theorem RC.mem (h:RC X w pc pm gN e mn lw hi O M v A c): ∀y∈rcs pc pm gN A M,y∈X:=fun y hy=>by
 rcases aC.1 hy with q|q
 ·exact h.b.mem y q
 ·rcases aB.1 q with rfl|q
  ·exact h.z.mem.1
  ·rcases aB.1 q with rfl|q
   ·exact h.z.mem.2
   ·exact h.z.memM q
theorem RC.lt (h:RC X w pc pm gN e mn lw hi O M v A c): ∀y∈rcs pc pm gN A M,y<w.heap.size:=fun y hy=>by
 rcases aC.1 hy with q|q
 ·exact h.b.lt y q
 ·rcases aB.1 q with rfl|q
  ·obtain⟨vP,vN,kn,ko,qo,h1,_⟩:=h.z.z;exact h1.lt
  ·rcases aB.1 q with rfl|q
   ·exact h.z.nodes.lt
   ·exact h.z.lt q
theorem RC.keep (h:RC X w pc pm gN e mn lw hi O M v A c) (k:Keep S w w') (hs: ∀s∈S,(s∈X∧s∉rcs pc pm gN A M)∨w.heap.size≤s):RC X w' pc pm gN e mn lw hi O M v A c:=
 ⟨h.z.keep k (fun s q=>(hs s q).imp (fun r=>⟨r.1,fun t=>r.2 (by subst t;exact aj _ (aG ..)),fun t=>r.2 (by subst t;exact aj _ (au _ (aG ..))),fun t=>r.2 (aj _ (au _ (au _ t)))⟩) id),
  h.b.keep k (fun s q=>⟨fun t=>by
   rcases hs s q with r|r
   ·exact r.2 (av _ t)
   ·have:=h.b.lt s t;omega,(hs s q).imp (fun r=>r.1) id⟩),h.ne⟩
theorem RC.more (h:RC X w pc pm gN e mn lw hi O M v A c) (hX: ∀x∈X,x∈Y) (hY: ∀y∈Y,y∈X∨w.heap.size≤y):RC Y w pc pm gN e mn lw hi O M v A c:=⟨h.z.more hX hY,h.b.more hX hY,h.ne⟩
end
end
section
open Go.RowKit Go.Maps
attribute [local go_sem ↓] aO aP
section
variable {X Y S M:List Nat} {w w':World} {pc pm gN e:Nat} {mn lw hi:Int} {O:List (List Int)} {v v':Value} {A A':SA} {C:List Sl} {c:Ca} {L':List Nd}
def RGvPost (X:List Nat) (pc pm gN e:Nat) (mn lw hi:Int) (O:List (List Int)) (M:List Nat) (v:Value) (A:SA) (w:World) (r:Ca×Nat) (en:Ending) (w':World):Prop:=
 en= .returned (.int .i64 r.2)∧RC X w' pc pm gN e mn lw hi O M v A r.1∧Keep (Dp pc A) w w'
end
end
section
open Go.RowKit Go.Maps
attribute [local go_sem ↓] aO aP
section
variable {X Y S M:List Nat} {w w':World} {pc pm gN e:Nat} {mn lw hi:Int} {O:List (List Int)} {v v':Value} {A A':SA} {C:List Sl} {c:Ca} {L':List Nd}
def RShPost (X:List Nat) (pc pm gN e:Nat) (mn lw hi:Int) (O:List (List Int)) (M:List Nat) (A:SA) (w:World) (r:Ca×Nat) (en:Ending) (w':World):Prop:=
 en= .returned (.int .i64 r.2)∧∃v' A',RC X w' pc pm gN e mn lw hi O M v' A' r.1∧Keep (pc::M) w w'∧∀y∈ay A',y∈ay A
end
end
section
open Go.RowKit Go.Maps
attribute [local go_sem ↓] aO aP
section
variable {X Y S M:List Nat} {w w':World} {pc pm gN e:Nat} {mn lw hi:Int} {O:List (List Int)} {v v':Value} {A A':SA} {C:List Sl} {c:Ca} {L':List Nd}
def RTkPost (X:List Nat) (pc pm gN e:Nat) (mn lw hi:Int) (O:List (List Int)) (M:List Nat) (A:SA) (w:World) (r:Ca×Nat×Ob) (en:Ending) (w':World):Prop:=
 en= .returned (.tuple #[obV r.2.2,.int .i64 r.2.1])∧∃X' M' v' A',RC X' w' pc pm gN e mn lw hi O M' v' A' r.1∧Keep (gN::Dp pc A) w w'∧(∀x∈X,x∈X')∧(∀x∈X',x∈X∨w.heap.size≤x)∧(∀x∈X',x<w'.heap.size)∧(∀m∈M',m∈M∨w.heap.size≤m)∧∀y∈ay A',y∈ay A∨w.heap.size≤y
structure RTkS (w wt:World) (pc pm gN e:Nat) (mn lw hi:Int) (O:List (List Int)) (X M:List Nat) (A:SA) (r:Ca×Nat×Ob) (Xt Mt:List Nat) (vt:Value) (At:SA) (ct:Ca) (m:Nat) (s:Sl) (p:Nat×Nat):Prop where
 rc:RC Xt wt pc pm gN e mn lw hi O Mt vt At ct
 hs:ct.C[m]?=some s
 hp:At[m]?=some p
 hm:jG s.T<s.T.length
 hl:s.T.length≤64
 pg:0≤s.pg∧s.pg<256
 rr:r=(⟨ct.L,ct.C.set m (jB s (iL s.T) true)⟩,0,nR e s (iL s.T))
 kk:Keep (gN::Dp pc A) w wt
 x1: ∀x∈X,x∈Xt
 x2: ∀x∈Xt,x∈X∨w.heap.size≤x
 x3: ∀x∈Xt,x<wt.heap.size
 m1: ∀m∈Mt,m∈M∨w.heap.size≤m
 y1: ∀y∈ay At,y∈ay A∨w.heap.size≤y
 t1:w.heap.size∈Xt
 t2:w.heap.size∉rcs pc pm gN At Mt
 lr:gX wt w.heap.size [.int .i64 0,.int .i64 0]
def mostV (C:List Sl) (b:Option Nat):Int:=match b with|none=> -1|some m=>za C m
end
end
section
open Go.RowKit Go.Maps
attribute [local go_sem ↓] aO aP
structure CZS (w0:World) (X:List Nat) (pc pz pcm pm gN e:Nat) (mn lw hi:Int) (O:List (List Int)) (M:List Nat) (vs v:Value) (As A:SA) (c d:Ca) (w:World):Prop where
 cs:CS w0.heap.size w pc pz mn lw hi O e X vs As c
 rc:RC X w pcm pm gN e mn lw hi O M v A d
 dis: ∀y∈rcs pcm pm gN A M,y∉cay pc vs As∧y∉ys c.L
 lim: ∀x∈X,w0.heap.size≤x∧x<w.heap.size
 bel:Below w0.heap.size w0 w
def CZX (w0:World) (X F:List Nat) (pc pz pcm pm gN e:Nat) (mn lw hi:Int) (O:List (List Int)) (c d:Ca) (w:World):Prop:=∃M vs v As A,CZS w0 X pc pz pcm pm gN e mn lw hi O M vs v As A c d w∧∀f∈F,f∈X∧f∉cay pc vs As++ys c.L++rcs pcm pm gN A M
section
variable {X Y S M M' F G:List Nat} {w w' w0:World} {ev:Nat→Addr} {pc pz pcm pm gN e:Nat} {mn lw hi:Int} {O:List (List Int)} {v v' vs vs':Value} {A A' As As':SA} {c c' d d':Ca} {L':List Nd}
def CZPost (w0:World) (X F:List Nat) (pc pz pcm pm gN e:Nat) (mn lw hi:Int) (O:List (List Int)) (c d:Ca) (w:World) (r:Value) (en:Ending) (w':World):Prop:=
 en= .returned r∧∃X',CZX w0 X' F pc pz pcm pm gN e mn lw hi O c d w'∧Keep (off X F) w w'∧∀x∈X',x∈X∨w.heap.size≤x
end
end
section
open Go.RowKit Go.Maps
attribute [local go_sem ↓] aO aP
structure RDB (X:List Nat) (w:World) (pd pc gh:Nat) (V:HV) (vp:Value) (U:List Value) (H:List Hd) (P:List (List Ob)):Prop where
 d:gX w pd [.pointer (some ⟨pc,0,none⟩),.slice (some ⟨gh,0,none⟩) H.length H.length,vp]
 hs:gX w gh (iI V)
 hl:V.length=H.length
 ho: ∀(i:Nat) (p:Value×Value) (h:Hd),V[i]?=some p→H[i]?=some h→iV X w p.1 h.1∧iV X w p.2 h.2
 row:jy X w vp U
 ul:U.length=P.length
 po: ∀(i:Nat) (u:Value) (m:List Ob),U[i]?=some u→P[i]?=some m→iV X w u m
 mem:pd∈X∧gh∈X
 ne:pd≠gh
structure RD (X:List Nat) (w:World) (pd gh pc pm gN e:Nat) (mn lw hi:Int) (O:List (List Int)) (M:List Nat) (v:Value) (A:SA) (V:HV) (vp:Value) (U:List Value) (d:De):Prop where
 c:RC X w pc pm gN e mn lw hi O M v A d.c
 b:RDB X w pd pc gh V vp U d.H d.P
 ne:pd∉rcs pc pm gN A M∧gh∉rcs pc pm gN A M
def rds (pd gh pc pm gN:Nat) (A:SA) (M:List Nat):List Nat:=pd::gh::rcs pc pm gN A M
section
variable {X Y S M M' F G:List Nat} {w w' w0:World} {ev:Nat→Addr} {pd gh pc pm gN e:Nat} {mn lw hi:Int} {O:List (List Int)} {v v' vp vp':Value} {A A':SA} {V V':HV} {U U':List Value} {d d':De} {H:List Hd} {P P':List (List Ob)} {c c':Ca}
theorem RDB.keep (h:RDB X w pd pc gh V vp U H P) (k:Keep S w w') (hs: ∀s∈S,s≠pd∧s≠gh∧(s∈X∨w.heap.size≤s)):RDB X w' pd pc gh V vp U H P:=
 ⟨h.d.keep k (fun q=>(hs _ q).1 rfl),h.hs.keep k (fun q=>(hs _ q).2.1 rfl),h.hl,fun i p g hp hg=>⟨(h.ho i p g hp hg).1.keep k fun s q=>(hs s q).2.2,(h.ho i p g hp hg).2.keep k fun s q=>(hs s q).2.2⟩,
  h.row.keep k (fun s q=>(hs s q).2.2),h.ul,fun i u m hu hm=>(h.po i u m hu hm).keep k fun s q=>(hs s q).2.2,h.mem,h.ne⟩
theorem RDB.more (h:RDB X w pd pc gh V vp U H P) (hX: ∀x∈X,x∈Y) (hY: ∀y∈Y,y∈X∨w.heap.size≤y):RDB Y w pd pc gh V vp U H P:=
 ⟨h.d,h.hs,h.hl,fun i p g hp hg=>⟨(h.ho i p g hp hg).1.more hY,(h.ho i p g hp hg).2.more hY⟩,h.row.more hY,h.ul,fun i u m hu hm=>(h.po i u m hu hm).more hY,⟨hX _ h.mem.1,hX _ h.mem.2⟩,h.ne⟩
theorem RD.mem (h:RD X w pd gh pc pm gN e mn lw hi O M v A V vp U d): ∀y∈rds pd gh pc pm gN A M,y∈X:=fun y hy=>by
 rcases aB.1 hy with rfl|q
 ·exact h.b.mem.1
 ·rcases aB.1 q with rfl|q
  ·exact h.b.mem.2
  ·exact h.c.mem y q
theorem RD.lt (h:RD X w pd gh pc pm gN e mn lw hi O M v A V vp U d): ∀y∈rds pd gh pc pm gN A M,y<w.heap.size:=fun y hy=>by
 rcases aB.1 hy with rfl|q
 ·exact h.b.d.lt
 ·rcases aB.1 q with rfl|q
  ·exact h.b.hs.lt
  ·exact h.c.lt y q
theorem RD.keep (h:RD X w pd gh pc pm gN e mn lw hi O M v A V vp U d) (k:Keep S w w') (hs: ∀s∈S,(s∈X∧s∉rds pd gh pc pm gN A M)∨w.heap.size≤s):RD X w' pd gh pc pm gN e mn lw hi O M v A V vp U d:=
 ⟨h.c.keep k (fun s q=>(hs s q).imp (fun r=>⟨r.1,fun t=>r.2 (au _ (au _ t))⟩) id),
  h.b.keep k (fun s q=>by
   have l1:=h.b.d.lt;have l2:=h.b.hs.lt
   rcases hs s q with r|r
   ·exact⟨fun t=>r.2 (t▸aG ..),fun t=>r.2 (t▸au _ (aG ..)),.inl r.1⟩
   ·exact⟨fun t=>om,fun t=>om,.inr r⟩),h.ne⟩
theorem RD.below (h:RD X w pd gh pc pm gN e mn lw hi O M v A V vp U d) (k:Below w.heap.size w w'):RD X w' pd gh pc pm gN e mn lw hi O M v A V vp U d:=h.keep (Keep.of (S:=[]) k) (fun _ q=>by cases q)
theorem RD.more (h:RD X w pd gh pc pm gN e mn lw hi O M v A V vp U d) (hX: ∀x∈X,x∈Y) (hY: ∀y∈Y,y∈X∨w.heap.size≤y):RD Y w pd gh pc pm gN e mn lw hi O M v A V vp U d:=
 ⟨h.c.more hX hY,h.b.more hX hY,h.ne⟩
def RDPost (X:List Nat) (pd gh pc pm gN e:Nat) (mn lw hi:Int) (O:List (List Int)) (M:List Nat) (A:SA) (w:World) (d':De) (r:Value) (en:Ending) (w':World):Prop:=
 en= .returned r∧∃X' M' v' A' V' vp' U',RD X' w' pd gh pc pm gN e mn lw hi O M' v' A' V' vp' U' d'∧Keep (rds pd gh pc pm gN A M) w w'∧(∀x∈X,x∈X')∧(∀x∈X',x∈X∨w.heap.size≤x)∧(∀x∈X',x<w'.heap.size)∧(∀y∈rds pd gh pc pm gN A' M',y∈rds pd gh pc pm gN A M∨w.heap.size≤y)
end
end
section
open Go.RowKit Go.Maps
section
variable {X Y Z S M M' F F' G:List Nat} {B:Nat} {w w' w0 w1:World} {ev:Nat→Addr} {pd pc pz gh pdm ghm pcm pm gN e:Nat} {mn lw hi:Int} {O:List (List Int)} {v v' vp vp':Value} {A A':SA} {V V':HV} {U U':List Value} {d d' m m':De}
theorem CD.addZ (h:CD B w X pd pc pz gh mn lw hi O e v A V vp U d) (k:Keep S w w1) (hs: ∀s∈S,(s∈X∨w.heap.size≤s)∧s∉xd pc v A d.c.L pd gh vp) (hX: ∀x∈X,x∈Z) (hZ: ∀y∈Z,(y∈X∨w.heap.size≤y)∧y<w1.heap.size) (hB:B≤w.heap.size):CD B w1 Z pd pc pz gh mn lw hi O e v A V vp U d:=by
 have hm: ∀y∈Z,y∈X∨w.heap.size≤y:=fun y hy=>(hZ y hy).1
 have f1: ∀s∈S,s∉day pd gh vp:=fun s q r=>(hs s q).2 (av _ r)
 have f2: ∀s∈S,s∉cay pc v A:=fun s q r=>(hs s q).2 (aj _ (av _ r))
 have f3: ∀s∈S,s∉ys d.c.L:=fun s q r=>(hs s q).2 (aj _ (aj _ r))
 refine⟨fun y hy=>hX y (h.x y hy),fun y hy=>⟨?_,(hZ y hy).2⟩,(h.cs.more hX hm).keep k (fun s q=>⟨f2 s q,(hs s q).1.imp (fun r=>⟨hX _ r,f3 s q⟩) id⟩),(h.de.more hm (fun y hy=>hX y (h.de.mem y hy))).keep k (fun s q=>⟨f1 s q,(hs s q).1.imp (fun r=>hX _ r) id⟩),h.ne⟩
 rcases hm y hy with q|q
 ·exact(h.lim y q).1
 ·omega
theorem DpS.addZ (h:DpS B w0 pd pc pz gh mn lw hi O e X F d w) (hB:B≤w.heap.size) (k:Keep S w w1) (hs: ∀s∈S,s∈F) (hX: ∀x∈X,x∈Z) (hZ: ∀y∈Z,(y∈X∨w.heap.size≤y)∧y<w1.heap.size) (hF: ∀f∈F',(f∈F∨w.heap.size≤f)∧f∈Z):DpS B w0 pd pc pz gh mn lw hi O e Z F' d w1:=by
 obtain⟨v,A,V,vp,U,q,hf⟩:=h.cd
 refine⟨⟨v,A,V,vp,U,q.addZ k (fun s hs'=>⟨.inl (hf s (hs s hs')).1,(hf s (hs s hs')).2⟩) hX hZ hB,fun f hff=>⟨(hF f hff).2,fun t=> ?_⟩⟩,h.inv,h.bel.trans (k.below hB fun s hs'=>(q.lim s (hf s (hs s hs')).1).1)⟩
 rcases(hF f hff).1 with r|r
 ·exact(hf f r).2 t
 ·have:=(q.lim f (q.x f t)).2;omega
structure DZS (w0:World) (X F:List Nat) (pd pc pz gh pdm ghm pcm pm gN e:Nat) (mn lw hi:Int) (O:List (List Int)) (M:List Nat) (v:Value) (A:SA) (V:HV) (vp:Value) (U:List Value) (d m:De) (w:World):Prop where
 s:DpS w0.heap.size w0 pd pc pz gh mn lw hi O e X (rds pdm ghm pcm pm gN A M++F) d w
 r:RD X w pdm ghm pcm pm gN e mn lw hi O M v A V vp U m
 f: ∀f∈F,f∉rds pdm ghm pcm pm gN A M
def DZX (w0:World) (X F:List Nat) (pd pc pz gh pdm ghm pcm pm gN e:Nat) (mn lw hi:Int) (O:List (List Int)) (d m:De) (w:World):Prop:=
 ∃M v A V vp U,DZS w0 X F pd pc pz gh pdm ghm pcm pm gN e mn lw hi O M v A V vp U d m w
theorem DZX.bel (h:DZX w0 X F pd pc pz gh pdm ghm pcm pm gN e mn lw hi O d m w):Below w0.heap.size w0 w:=by
 obtain⟨M,v,A,V,vp,U,q⟩:=h
 exact q.s.bel
theorem DZX.lim (h:DZX w0 X F pd pc pz gh pdm ghm pcm pm gN e mn lw hi O d m w): ∀x∈X,w0.heap.size≤x∧x<w.heap.size:=by
 obtain⟨M,v,A,V,vp,U,q⟩:=h
 exact q.s.lim
theorem DZX.inv (h:DZX w0 X F pd pc pz gh pdm ghm pcm pm gN e mn lw hi O d m w):lV e d:=by
 obtain⟨M,v,A,V,vp,U,q⟩:=h
 exact q.s.inv
theorem DZX.ord (h:DZX w0 X F pd pc pz gh pdm ghm pcm pm gN e mn lw hi O d m w):nM O d.c.L.length:=by
 obtain⟨M,v,A,V,vp,U,q⟩:=h
 exact q.s.ord
theorem DZX.go (h:DZX w0 X F pd pc pz gh pdm ghm pcm pm gN e mn lw hi O d m w) (k:Below w.heap.size w w'):DZX w0 X F pd pc pz gh pdm ghm pcm pm gN e mn lw hi O d m w':=by
 obtain⟨M,v,A,V,vp,U,q⟩:=h
 exact⟨M,v,A,V,vp,U,q.s.go q.s.bel.size k,q.r.below k,q.f⟩
theorem DZS.prog (h:DZS w0 X F pd pc pz gh pdm ghm pcm pm gN e mn lw hi O M v A V vp U d m w) (hs:DpS w0.heap.size w0 pd pc pz gh mn lw hi O e Y (rds pdm ghm pcm pm gN A M++F) d' w') (k:Keep (off X (rds pdm ghm pcm pm gN A M++F)) w w') (h1: ∀x∈Y,x∈X∨w.heap.size≤x) (h2: ∀x∈X,x∈Y):
 DZS w0 Y F pd pc pz gh pdm ghm pcm pm gN e mn lw hi O M v A V vp U d' m w':=
 ⟨hs,(h.r.more h2 h1).keep k (fun s q=>.inl ⟨h2 s (iO.1 q).1,fun t=>(iO.1 q).2 (av _ t)⟩),h.f⟩
theorem DZX.other (h:DZX w0 X F pd pc pz gh pdm ghm pcm pm gN e mn lw hi O d m w) (k:Keep S w w') (hs: ∀s∈S,s∈F):DZX w0 X F pd pc pz gh pdm ghm pcm pm gN e mn lw hi O d m w':=by
 obtain⟨M,v,A,V,vp,U,q⟩:=h
 exact⟨M,v,A,V,vp,U,q.s.other q.s.bel.size k (fun s t=>aj _ (hs s t)),q.r.keep k (fun s t=>.inl ⟨q.s.nY s (aj _ (hs s t)),q.f s (hs s t)⟩),q.f⟩
theorem DZX.Bo (h:DZX w0 X F pd pc pz gh pdm ghm pcm pm gN e mn lw hi O d m w) (k:Keep S w w') (hs: ∀s∈S,s∈F) (hG: ∀g∈G,w.heap.size≤g∧g<w'.heap.size):DZX w0 (G++X) (G++F) pd pc pz gh pdm ghm pcm pm gN e mn lw hi O d m w':=by
 obtain⟨M,v,A,V,vp,U,q⟩:=h
 have n1: ∀y∈G++X,y∈X∨w.heap.size≤y:=fun y hy=>by
  rcases aC.1 hy with r|r
  ·exact .inr (hG y r).1
  ·exact .inl r
 refine⟨M,v,A,V,vp,U,q.s.addZ q.s.bel.size k (fun s t=>aj _ (hs s t)) (fun x t=>aj _ t) (fun y t=>⟨n1 y t,?_⟩) (fun f t=> ?_),(q.r.more (fun x t=>aj _ t) n1).keep k (fun s t=>.inl ⟨aj _ (q.s.nY s (aj _ (hs s t))),q.f s (hs s t)⟩),fun f t r=> ?_⟩
 ·rcases aC.1 t with r|r
  ·exact(hG y r).2
  ·exact aF (q.s.lim y r).2 k.size
 ·rcases aC.1 t with r|r
  ·exact⟨.inl (av _ r),aj _ (q.r.mem f r)⟩
  ·rcases aC.1 r with r|r
   ·exact⟨.inr (hG f r).1,av _ r⟩
   ·exact⟨.inl (aj _ r),aj _ (q.s.nY f (aj _ r))⟩
 ·rcases aC.1 t with s|s
  ·have:=(hG f s).1;have:=q.r.lt f r;omega
  ·exact q.f f s r
theorem DZX.xw (h:DZX w0 X F pd pc pz gh pdm ghm pcm pm gN e mn lw hi O d m w) (hG: ∀g∈G,g∈F):DZX w0 X G pd pc pz gh pdm ghm pcm pm gN e mn lw hi O d m w:=by
 obtain⟨M,v,A,V,vp,U,q⟩:=h
 refine⟨M,v,A,V,vp,U,q.s.xw (fun g t=> ?_),q.r,fun f t=>q.f f (hG f t)⟩
 rcases aC.1 t with r|r
 ·exact av _ r
 ·exact aj _ (hG g r)
theorem DZX.nY (h:DZX w0 X F pd pc pz gh pdm ghm pcm pm gN e mn lw hi O d m w): ∀f∈F,f∈X:=by
 obtain⟨M,v,A,V,vp,U,q⟩:=h
 exact fun f t=>q.s.nY f (aj _ t)
def DZPost (w0:World) (X F:List Nat) (pd pc pz gh pdm ghm pcm pm gN e:Nat) (mn lw hi:Int) (O:List (List Int)) (d m:De) (w:World) (r:Value) (en:Ending) (w':World):Prop:=
 en= .returned r∧∃X',DZX w0 X' F pd pc pz gh pdm ghm pcm pm gN e mn lw hi O d m w'∧Keep (off X F) w w'∧(∀x∈X',x∈X∨w.heap.size≤x)∧∀x∈X,x∈X'
theorem DZS.offp (h:DZS w0 X F pd pc pz gh pdm ghm pcm pm gN e mn lw hi O M v A V vp U d m w): ∀s∈off X (rds pdm ghm pcm pm gN A M++F),s∈off X F:=fun s q=>iO.2 ⟨(iO.1 q).1,fun t=>(iO.1 q).2 (aj _ t)⟩
theorem dz_take (k n:Int) (u:Bool) (hE:xu w0.heap.size ev w0) (h:DZX w0 X F pd pc pz gh pdm ghm pcm pm gN e mn lw hi O d m w):
 Calls Tryz.prog 37 #[.pointer (some ⟨pd,0,none⟩),.int .i64 k,.int .i64 n,.bool u] w (DZPost w0 X F pd pc pz gh pdm ghm pcm pm gN e mn lw hi O (takeD mn O e d k n u).1 m w (.tuple #[obV (takeD mn O e d k n u).2.2,iJ ev (takeD mn O e d k n u).2.1])):=by
 obtain⟨M,v,A,V,vp,U,q⟩:=h
 exact(dp_take k n u hE q.s).mono fun r w' ⟨hr,kk,X',h1,h2,h3⟩=>⟨hr,X',⟨M,v,A,V,vp,U,q.prog h3 kk h1 h2⟩,kk.mono q.offp,h1,h2⟩
theorem dz_give (k:Int) (o:Ob) (hE:xu w0.heap.size ev w0) (h:DZX w0 X F pd pc pz gh pdm ghm pcm pm gN e mn lw hi O d m w) (o1: -9223372036854775808≤o.2) (o2:o.2≤9223372036854775807):
 Calls Tryz.prog 39 #[.pointer (some ⟨pd,0,none⟩),.int .i64 k,.agg #[.int .i64 o.1,.int .i64 o.2]] w (DZPost w0 X F pd pc pz gh pdm ghm pcm pm gN e mn lw hi O (iU e d k o).1 m w (iJ ev (iU e d k o).2)):=by
 obtain⟨M,v,A,V,vp,U,q⟩:=h
 exact(dp_give k o hE q.s o1 o2).mono fun r w' ⟨hr,kk,X',h1,h2,h3⟩=>⟨hr,X',⟨M,v,A,V,vp,U,q.prog h3 kk h1 h2⟩,kk.mono q.offp,h1,h2⟩
end
end
section
open Go.RowKit Go.Maps
attribute [local go_sem ↓] aO aP
section
variable {X Y S M M' F G:List Nat} {B:Nat} {w w' w0:World} {ev:Nat→Addr} {pd pc pz gh pdm ghm pcm pm gN e:Nat} {mn lw hi:Int} {O:List (List Int)} {v v' vp vp':Value} {A A':SA} {V V':HV} {U U':List Value} {d d' m:De} {c c':Ca} {L:List Nd}
theorem rdnew_ok (pc:Nat) (n:Nat) (w:World) (n1:1≤n) (n4:n≤4):
 Calls Tryz.prog 36 #[.pointer (some ⟨pc,0,none⟩),.int .i64 n] w fun r w'=>r= .returned (.pointer (some ⟨w.heap.size+1,0,none⟩))∧w'=(w.alloc (.cells (iI (List.replicate n sW)).toArray 251)).alloc (.cells #[.pointer (some ⟨pc,0,none⟩),.slice (some ⟨w.heap.size,0,none⟩) n n,.slice none 0 0] 93):=by
 have h:n=1∨n=2∨n=3∨n=4:=om
 have em:madeCells (Value.agg #[.slice none 0 0,.slice none 0 0]).cells (n*2)=(iI (List.replicate n sW)).toArray:=by rcases h with rfl|rfl|rfl|rfl<;>kernel_rfl
 have MK: ∀W:World,(Instr.makeSlice 90 (.int .i64 (n:Nat)) (.int .i64 (n:Nat))).run Tryz.prog W= .ok (.slice (some ⟨W.heap.size,0,none⟩) n n) (W.alloc (.cells (iI (List.replicate n sW)).toArray 251)):=fun W=>by
  obtain⟨i0,hi0,hz0,hzs,hzb⟩:=info_parts (P:=Tryz.prog) (e:=251) (z:=.agg #[.slice none 0 0,.slice none 0 0]) (size:=2) (bytes:=48) kR
  have:=run_make (P:=Tryz.prog) W 90 251 i0 _ Tryz.underlying90 hi0 hz0 .i64 .i64 (n:Nat) (n:Nat) om (bZ _) (by rw[hzb];omega) om
  rw[this,hzs,←em]
  simp only[bV]
 rcases h with rfl|rfl|rfl|rfl
 ·have MK':(Instr.makeSlice 90 (.int .i64 1) (.int .i64 1)).run Tryz.prog w= .ok (.slice (some ⟨w.heap.size,0,none⟩) 1 1) (w.alloc (.cells (iI (List.replicate 1 sW)).toArray 251)):=MK w
  clear MK em
  go_enter Tryz.func36,Tryz.ntmps36
  go_wp2
  go_ret
  exact⟨rfl,rfl⟩
 ·have MK':(Instr.makeSlice 90 (.int .i64 2) (.int .i64 2)).run Tryz.prog w= .ok (.slice (some ⟨w.heap.size,0,none⟩) 2 2) (w.alloc (.cells (iI (List.replicate 2 sW)).toArray 251)):=MK w
  clear MK em
  go_enter Tryz.func36,Tryz.ntmps36
  go_wp2
  go_ret
  exact⟨rfl,rfl⟩
 ·have MK':(Instr.makeSlice 90 (.int .i64 3) (.int .i64 3)).run Tryz.prog w= .ok (.slice (some ⟨w.heap.size,0,none⟩) 3 3) (w.alloc (.cells (iI (List.replicate 3 sW)).toArray 251)):=MK w
  clear MK em
  go_enter Tryz.func36,Tryz.ntmps36
  go_wp2
  go_ret
  exact⟨rfl,rfl⟩
 ·have MK':(Instr.makeSlice 90 (.int .i64 4) (.int .i64 4)).run Tryz.prog w= .ok (.slice (some ⟨w.heap.size,0,none⟩) 4 4) (w.alloc (.cells (iI (List.replicate 4 sW)).toArray 251)):=MK w
  clear MK em
  go_enter Tryz.func36,Tryz.ntmps36
  go_wp2
  go_ret
  exact⟨rfl,rfl⟩
theorem RD.start (hrz:RZ X w pm gN mn lw hi O M L) (hX: ∀x∈X,x<w.heap.size) (n:Nat)
 (hw':w'=(((w.alloc (.cells #[.pointer (some ⟨pm,0,none⟩),.int .i64 e,.slice none 0 0] 47)).alloc (.cells (iI (List.replicate n sW)).toArray 251)).alloc (.cells #[.pointer (some ⟨w.heap.size,0,none⟩),.slice (some ⟨w.heap.size+1,0,none⟩) n n,.slice none 0 0] 93))):
 RD ((w.heap.size+2)::(w.heap.size+1)::w.heap.size::X) w' (w.heap.size+2) (w.heap.size+1) w.heap.size pm gN e mn lw hi O M (.slice none 0 0) [] (List.replicate n sW) (.slice none 0 0) [] ⟨⟨L,[]⟩,List.replicate n ([],[]),[]⟩:=by
 have b:Below w.heap.size w w':=by rw[hw'];exact iq
 have hrc:Dp w.heap.size []=[w.heap.size]:=rfl
 have lpm:pm<w.heap.size:=by obtain⟨vP,vN,kn,ko,qo,q1,_⟩:=hrz.z;exact q1.lt
 have lgN:=hrz.nodes.lt
 have hr: ∀y∈rcs w.heap.size pm gN [] M,y≤w.heap.size:=fun y hy=>by
  rcases aC.1 hy with q|q
  ·rw[hrc] at q;simp at q;omega
  ·rcases aB.1 q with rfl|q
   ·omega
   ·rcases aB.1 q with rfl|q
    ·omega
    ·have:=hrz.lt q;omega
 refine⟨⟨(hrz.more (fun x hx=>au _ (au _ (au _ hx))) (fun y hy=> ?_)).below b,⟨?_,jy.nil _ _,rfl,fun i p s hp=>by simp at hp,fun y hy=> ?_,?_,.inl rfl⟩,fun y hy=> ?_⟩,⟨?_,?_,sI,fun i p g hp hg=> ?_,jy.nil _ _,rfl,fun i u m hu=>by simp at hu,⟨sI,sI⟩,sI⟩,fun q=>by have:=hr _ q;omega,fun q=>by have:=hr _ q;omega⟩
 ·simp at hy
  rcases hy with rfl|rfl|rfl|q
  ·exact .inr om
  ·exact .inr om
  ·exact .inr om
  ·exact .inl q
 ·rw[hw']
  exact((gX.mk_ w [.pointer (some ⟨pm,0,none⟩),.int .i64 e,.slice none 0 0] 47 rfl).past _).past _
 ·rw[hrc] at hy;simp at hy;subst hy;simp
 ·rw[hrc];simp
 ·rw[hrc] at hy;simp at hy;subst hy
  exact⟨om,om,fun q=>by have:=hrz.lt q;omega⟩
 ·rw[hw']
  simp only[List.length_replicate]
  exact gX.mk_ _ [.pointer (some ⟨w.heap.size,0,none⟩),.slice (some ⟨w.heap.size+1,0,none⟩) n n,.slice none 0 0] 93 sI
 ·rw[hw']
  exact(gX.mk_ _ (iI (List.replicate n sW)) 251 sI).past _
 ·rw[dP] at hp hg
  split at hp
  ·rw[if_pos aM] at hg
   obtain rfl:=aH hp
   obtain rfl:=aH hg
   exact⟨iV.nil _ _,iV.nil _ _⟩
  ·cases hp
theorem DZX.start {w3 w8 w12 w15:World} {X0:List Nat} {nw:Nat} (hs:DpS w3.heap.size w3 pd pc pz gh mn lw hi O e X0 [] ⟨⟨L,[]⟩,List.replicate nw ([],[]),[]⟩ w8) (b12:Below w8.heap.size w8 w12) (hrz:RZ X w12 pm gN mn lw hi O M L)
 (h1: ∀x∈X,(x∈X0∨w8.heap.size≤x)∧x<w12.heap.size) (h2: ∀y∈X0,y∈X) (h3:pm∉X0) (h4:gN∉X0) (h5: ∀m∈M,m∉X0)
 (hw':w15=(((w12.alloc (.cells #[.pointer (some ⟨pm,0,none⟩),.int .i64 e,.slice none 0 0] 47)).alloc (.cells (iI (List.replicate nw sW)).toArray 251)).alloc (.cells #[.pointer (some ⟨w12.heap.size,0,none⟩),.slice (some ⟨w12.heap.size+1,0,none⟩) nw nw,.slice none 0 0] 93))):
 DZX w3 ((w12.heap.size+2)::(w12.heap.size+1)::w12.heap.size::X) [] pd pc pz gh (w12.heap.size+2) (w12.heap.size+1) w12.heap.size pm gN e mn lw hi O ⟨⟨L,[]⟩,List.replicate nw ([],[]),[]⟩ ⟨⟨L,[]⟩,List.replicate nw ([],[]),[]⟩ w15:=by
 have r:=RD.start (e:=e) hrz (fun x hx=>(h1 x hx).2) nw hw'
 have b15:Below w12.heap.size w12 w15:=by rw[hw'];exact iq
 have s15:w15.heap.size=w12.heap.size+3:=by rw[hw'];simp
 have z12:=b12.size
 refine⟨M,.slice none 0 0,[],List.replicate nw sW,.slice none 0 0,[],hs.addZ (S:=[]) hs.bel.size (Keep.of (b12.trans (b15.mono z12))) (fun s q=>by cases q) (fun x q=>au _ (au _ (au _ (h2 x q)))) (fun y q=> ?_) (fun f q=>⟨.inr ?_,?_⟩),r,fun f q=>by cases q⟩
 ·simp at q
  rcases q with rfl|rfl|rfl|q
  ·exact⟨.inr om,om⟩
  ·exact⟨.inr om,om⟩
  ·exact⟨.inr om,om⟩
  ·exact⟨(h1 y q).1,by have:=(h1 y q).2;omega⟩
 ·rw[dM] at q
  have nw': ∀x∈X,x∉X0→w8.heap.size≤x:=fun x hx hn=>(h1 x hx).1.resolve_left hn
  have hrc:Dp w12.heap.size []=[w12.heap.size]:=rfl
  rcases aB.1 q with rfl|q
  ·omega
  ·rcases aB.1 q with rfl|q
   ·omega
   ·rcases aC.1 q with q|q
    ·rw[hrc] at q;simp at q;omega
    ·rcases aB.1 q with rfl|q
     ·exact nw' _ hrz.mem.1 h3
     ·rcases aB.1 q with rfl|q
      ·exact nw' _ hrz.mem.2 h4
      ·exact nw' _ (hrz.memM q) (h5 f q)
 ·rw[dM] at q
  exact r.mem f q
end
end
end Go.Proofs.YtdcbhlcbiokbeaaGreatDoor
