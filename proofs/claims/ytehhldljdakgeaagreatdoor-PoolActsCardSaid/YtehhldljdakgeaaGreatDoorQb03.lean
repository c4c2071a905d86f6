/- Lemmas. -/
import Derived.Test.YtehhldljdakgeaaGreatDoorQb01
import Derived.Test.YtehhldljdakgeaaGreatDoorQb02
set_option linter.unusedSimpArgs false
set_option linter.unusedVariables false
set_option maxHeartbeats 16000000
set_option maxRecDepth 100000
namespace Go.Proofs.YtehhldljdakgeaaGreatDoor
open Go.RowKit Go.Maps Go.Proofs.Tryz
attribute [local go_sem ↓] aJ aK
theorem jY {n:Nat} {a b:World} (h:Below n a b:=by repeat(first|exact aL _ _|refine Below.drew ?_|refine below_drewN ?_ _|refine fG ?_ (iO aM (by first|omega|(simp;omega)|(simp;done)))|refine iW ?_ (by first|omega|(simp;omega)|(simp;done)) _|refine iD ?_ (by first|omega|(simp;omega)|(simp;done)) _)):Below n a b:=h
def kM (ev:Nat→Addr):Nat→Value
 |0=>.nilIface
 |i+1=>.iface 336 (.pointer (some (ev (i+1))))
def errG:Nat→Nat
 |1=>9
 |2=>1
 |3=>0
 |4=>2
 |5=>4
 |6=>6
 |7=>3
 |8=>8
 |9=>5
 |_=>7
structure Ap (B:Nat) (ev:Nat→Addr) (w:World):Prop where
 size:B≤w.heap.size
 l2:1<B
 l3:0<B
 l4:2<B
 c2:w.cell? ⟨1,0,Option.none⟩=some (kM ev 2)
 c3:w.cell? ⟨0,0,Option.none⟩=some (kM ev 3)
 c4:w.cell? ⟨2,0,Option.none⟩=some (kM ev 4)
theorem Ap.below {B:Nat} {ev:Nat→Addr} {w w':World} (h:Ap B ev w) (hb:Below B w w'):Ap B ev w':=
 ⟨bW h.size hb.size,h.l2,h.l3,h.l4,
  by rw[hb.cell (p:=⟨1,0,Option.none⟩) h.l2];exact h.c2,
  by rw[hb.cell (p:=⟨0,0,Option.none⟩) h.l3];exact h.c3,
  by rw[hb.cell (p:=⟨2,0,Option.none⟩) h.l4];exact h.c4⟩
theorem Ap.z2 {B:Nat} {ev:Nat→Addr} {w:World} (h:Ap B ev w):1<w.heap.size:=aC h.l2 h.size
theorem Ap.z3 {B:Nat} {ev:Nat→Addr} {w:World} (h:Ap B ev w):0<w.heap.size:=aC h.l3 h.size
structure UA (B:Nat) (ev:Nat→Addr) (w:World):Prop where
 c:Ap B ev w
 l5:4<B
 c5:w.cell? ⟨4,0,Option.none⟩=some (kM ev 5)
theorem UA.below {B:Nat} {ev:Nat→Addr} {w w':World} (h:UA B ev w) (hb:Below B w w'):UA B ev w':=
 ⟨h.c.below hb,h.l5,by rw[hb.cell (p:=⟨4,0,Option.none⟩) h.l5];exact h.c5⟩
theorem UA.z5 {B:Nat} {ev:Nat→Addr} {w:World} (h:UA B ev w):4<w.heap.size:=aC h.l5 h.c.size
theorem UA.size {B:Nat} {ev:Nat→Addr} {w:World} (h:UA B ev w):B≤w.heap.size:=h.c.size
structure qC (B:Nat) (ev:Nat→Addr) (w:World):Prop where
 size:B≤w.heap.size
 glob: ∀i,1≤i→i≤10→errG i<B
 cell: ∀i,1≤i→i≤10→w.cell? ⟨errG i,0,Option.none⟩=some (kM ev i)
 inj: ∀i j,1≤i→i≤10→1≤j→j≤10→ev i=ev j→i=j
 row: ∀i,1≤i→i≤10→∃c t,w.heap[(ev i).block]?=some (.cells c t (0,0))
 lt: ∀i,1≤i→i≤10→(ev i).block<B
 globT:10<B
 typ:w.cell? ⟨10,0,Option.none⟩=some (.iface 254 (.agg #[.pointer (some ⟨11,30,Option.none⟩)]))
theorem qC.below {B:Nat} {ev:Nat→Addr} {w w':World} (h:qC B ev w) (hb:Below B w w'):qC B ev w':=
 ⟨bW h.size hb.size,h.glob,fun i a b=>by rw[hb.cell (p:=⟨errG i,0,Option.none⟩) (h.glob i a b)];exact h.cell i a b,h.inj,
  fun i a b=>by rw[hb.block _ (h.lt i a b)];exact h.row i a b,h.lt,h.globT,
  by rw[hb.cell (p:=⟨10,0,Option.none⟩) h.globT];exact h.typ⟩
theorem qC.c {B:Nat} {ev:Nat→Addr} {w:World} (h:qC B ev w):Ap B ev w:=
 ⟨h.size,h.glob 2 (by decide) (by decide),h.glob 3 (by decide) (by decide),h.glob 4 (by decide) (by decide),h.cell 2 (by decide) (by decide),h.cell 3 (by decide) (by decide),h.cell 4 (by decide) (by decide)⟩
theorem qC.d {B:Nat} {ev:Nat→Addr} {w:World} (h:qC B ev w):UA B ev w:=⟨h.c,h.glob 5 (by decide) (by decide),h.cell 5 (by decide) (by decide)⟩
theorem zy {W w1:World} {n:Nat} (hb:Below n W w1):(∀b o,b<n→w1.cell? ⟨b,o,Option.none⟩=W.cell? ⟨b,o,Option.none⟩)∧(∀b o,b<n→w1.frozen? ⟨b,o,Option.none⟩=W.frozen? ⟨b,o,Option.none⟩):=
 ⟨fun b o h=>hb.cell (p:=⟨b,o,Option.none⟩) h,fun b o h=>hb.frozen (p:=⟨b,o,Option.none⟩) h⟩
theorem GD (k:Int) (w:World):Calls prog 188 #[.int .i64 k] w fun e w'=>e= .returned (.bool (decide (0≤k∧k≤6)))∧w=w':=by
 by_cases h0:0≤k
 ·by_cases h6:k≤6
  ·have hd:decide (0≤k∧k≤6)=true:=dQt ⟨h0,h6⟩
   rw[hd];go_in
   go_wp2;go_ret;exact⟨rfl,rfl⟩
  ·have hd:decide (0≤k∧k≤6)=false:=dQf om
   rw[hd];go_in
   go_wp2;go_ret;exact⟨sI,rfl⟩
 ·have hd:decide (0≤k∧k≤6)=false:=dQf om
  rw[hd];go_in
  go_wp2;go_ret;exact⟨rfl,rfl⟩
theorem GH (k:Int) (w:World) (h:0≤k∧k≤6):Calls prog 188 #[.int .i64 k] w fun e w'=>e= .returned (.bool true)∧w=w':=by
 have:=GD k w;rwa [dQt h] at this
theorem PE (k:Int) (w:World) (h:k<0∨6<k):Calls prog 188 #[.int .i64 k] w fun e w'=>e= .returned (.bool false)∧w=w':=by
 have:=GD k w;rwa [dQf (show¬(0≤k∧k≤6) by omega)] at this
theorem Fx (k:Int) (w:World) (h:0≤k∧k≤6):Calls prog 160 #[.int .i64 k] w fun e w'=>e= .returned (.tuple #[.int .i64 (sz k),.nilIface])∧w=w':=by
 have hs:=xV h.1 h.2;obtain⟨h0,h6⟩:=h;go_in
 go_wp2_with (go_at_call 188;refine(GH _ _ ⟨h0,h6⟩).mono ?_;rintro e w' ⟨rfl,rfl⟩);go_ret2
 exact⟨by rw[←hs];rfl,rfl⟩
theorem size_no {B:Nat} {ev:Nat→Addr} (k:Int) (w:World) (hE:Ap B ev w) (h:k<0∨6<k):
 Calls prog 160 #[.int .i64 k] w fun e w'=>e= .returned (.tuple #[.int .i64 0,kM ev 2])∧Below w.heap.size w w':=by
 have hc:=hE.c2;go_in
 go_wp2_with (go_at_call 188;refine(PE _ _ h).mono ?_;rintro e w' ⟨rfl,rfl⟩);go_region
 all_goals go_wp2
 all_goals go_ret2
 all_goals exact⟨rfl,jY⟩
theorem look_any {B:Nat} {ev:Nat→Addr} (a k:Int) (w:World) (hE:Ap B ev w):
 Calls prog 205 #[.agg #[.int .i64 a,.int .i64 k]] w fun e w'=>e= .returned (kM ev (rP a k))∧Below w.heap.size w w':=by
 have hc:=hE.c2;have hc':=hE.c3;have hz:=hE.z2;have hz':=hE.z3;rcases zW a k with⟨hr,h⟩|⟨⟨h0,h1,k0,k6⟩,h⟩
 ·rw[hr]
  clear hr;by_cases ha:a<0
  ·go_in
   go_wp2_with fail;go_ret;exact⟨rfl,jY⟩
  ·by_cases ha2:256≤a
   ·go_in
    go_wp2_with fail;go_ret;exact⟨rfl,jY⟩
   ·have hk:k<0∨6<k:=by omega
    clear h;go_in
    go_wp2_with (go_at_call 188;refine(PE _ _ hk).mono ?_;rintro e w' ⟨rfl,rfl⟩);go_ret;exact⟨rfl,jY⟩
 ·have hs:=xV k0 k6
  have hn:=and_sz h0 om k0 k6;obtain⟨s1,s2⟩:=xS k0 k6;have H:Hid _:=ah h;clear h;go_in
  go_wp2_with (go_at_call 188;refine(GH _ _ ⟨k0,k6⟩).mono ?_;rintro e w' ⟨rfl,rfl⟩);go_quiet (fail);go_wp2
  ·have hne:(a % sz k !=0)=true:=by assumption
   rcases H.out with⟨e1,e2⟩|⟨e1,e2⟩
   ·go_ret
    exact⟨by rw[e1];rfl,jY⟩
   ·simp[e2] at hne
  ·have hne:(a % sz k !=0)=false:=by assumption
   rcases H.out with⟨e1,e2⟩|⟨e1,e2⟩
   ·simp[e2] at hne
   ·go_ret
    exact⟨by rw[e1];rfl,jY⟩
theorem look_ok {B:Nat} {ev:Nat→Addr} (a k:Int) (w:World) (hE:Ap B ev w) (h:rP a k=0):
 Calls prog 205 #[.agg #[.int .i64 a,.int .i64 k]] w fun e w'=>e= .returned .nilIface∧Below w.heap.size w w':=
 (look_any a k w hE).mono fun _ _ ⟨h1,h2⟩=>⟨by rw[h1,h];rfl,h2⟩
theorem UC {B:Nat} {ev:Nat→Addr} (a k:Int) (w:World) (hE:Ap B ev w) (h:S9 a k=0):
 Calls prog 194 #[.agg #[.int .i64 a,.int .i64 k]] w fun e w'=>e= .returned (.tuple #[.agg #[.int .i64 a,.int .i64 (k-1)],.agg #[.int .i64 (a+sz (k-1)),.int .i64 (k-1)],.nilIface])∧Below w.heap.size w w':=by
 obtain⟨ha,hk⟩:=DU h;obtain⟨a0,a1,k0,k6,_⟩:=Ji ha;have hB:=hE.size;have k1:1≤k:=om;have hs:wrap64 (2 ^ (k.toNat-1))=sz (k-1):=by
  have e:(k-1).toNat=k.toNat-1:=om;rw[←e];exact xV (k:=k-1) om om
 obtain⟨s1,s2⟩:=xS (k:=k-1) om om;go_in
 go_wp2_with fail;refine(look_ok a k _ (hE.below jY) ha).mono ?_;rintro e w1 ⟨rfl,hb⟩;obtain⟨hc,hf⟩:=zy hb;have hz:=hb.size;simp at hz hc hf;have z0:w.heap.size<w1.heap.size:=om;have z1:w.heap.size+1<w1.heap.size:=om;go_wp2;go_region
 go_wp2;exact bodyPost_ret (v:=.tuple #[.agg #[.int .i64 a,.int .i64 (k-1)],.agg #[.int .i64 (a+sz (k-1)),.int .i64 (k-1)],.nilIface]) (by simp[results,Tryz.results194,go_sem,hc,z0,z1]) rfl ⟨rfl,jY⟩
theorem Bf (k:Int) (w:World):Calls prog 140 #[.int .i64 k] w fun e w'=>e= .returned (.bool (decide (0≤k∧k≤6)))∧w=w':=by
 by_cases h0:0≤k
 ·by_cases h6:k≤6
  ·rw[dQt (show 0≤k∧k≤6 from⟨h0,h6⟩)]
   go_in
   go_wp2;go_ret;exact⟨rfl,rfl⟩
  ·rw[dQf (show¬(0≤k∧k≤6) by omega)]
   go_in
   go_wp2;go_ret;exact⟨sI,rfl⟩
 ·rw[dQf (show¬(0≤k∧k≤6) by omega)]
  go_in
  go_wp2;go_ret;exact⟨rfl,rfl⟩
theorem Jk (k:Int) (w:World) (h:0≤k∧k≤6):Calls prog 140 #[.int .i64 k] w fun e w'=>e= .returned (.bool true)∧w=w':=by
 have:=Bf k w;rwa [dQt h] at this
theorem rR (k:Int) (w:World) (k0:0≤k) (k7:k≤7):Calls prog 153 #[.int .i64 k] w fun e w'=>e= .returned (.int .i64 (sz k))∧w=w':=by
 go_in
 go_wp2;go_loop [3,4] (fun n i=>∃j:Nat,(j:Int)≤k∧i= .int .i64 j∧n= .int .i64 (sz j)) (fun _ i=>k.toNat-(intOf i).toNat)
 case atStart=>exact⟨0,om,rfl,rfl⟩
 case round=>
  obtain⟨j,hj,rfl,rfl⟩:=hrel;obtain⟨s1,s2⟩:=Uu (k:=(j:Int)) om om;by_cases hlt:(j:Int)<k
  ·have hs:=xU (k:=(j:Int)) om om
   have HS:=ah hs;clear hs;go_wp2;go_round
   case rel=>exact⟨j+1,om,by go_num,by rw[show((j+1:Nat):Int)=(j:Int)+1 from om,HS.out]⟩
   case measure=>simp[intOf];omega
  ·have e:(j:Int)=k:=by omega
   have E:=ah e;clear e;go_wp2;go_ret;exact⟨by rw[←E.out];rfl,rfl⟩
theorem Jl (a k:Int) (w:World) (a0:0≤a) (a1:a≤255) (k0:0≤k) (k5:k≤5) (ha:a % sz k=0):
 Calls prog 197 #[.agg #[.int .i64 a,.int .i64 k]] w fun e w'=>e= .returned (.agg #[.int .i64 (zx a k),.int .i64 (k+1)])∧Below w.heap.size w w':=by
 obtain⟨p0,p1⟩:=kin_p a0 a1 k0 k5 ha;have hm:wrap64 (a / sz (k+1)*sz (k+1))=zx a k:=by
  rw[kin_q a0 a1 k0 k5 ha];exact IntWalk.wrap64_in _ ⟨om,om⟩
 obtain⟨s1,s2⟩:=Uu (k:=k+1) om om;clear ha;generalize zx a k=p at*
 generalize hq:sz (k+1)=s at*
 have HQ:=ah hq;clear hq;go_in
 go_wp2_with (go_at_call 153;refine(rR _ _ om om).mono ?_;rintro e w' ⟨rfl,rfl⟩;rw[HQ.out]);go_region
 go_wp2;exact bodyPost_ret (v:=.agg #[.int .i64 p,.int .i64 (k+1)]) (by simp[results,Tryz.results197,go_sem]) rfl ⟨rfl,jY⟩
theorem Sc (a k:Int) (w:World) (a0:0≤a) (a1:a≤255) (k0:0≤k) (k5:k≤5) (ha:a % sz k=0):
 Calls prog 171 #[.agg #[.int .i64 a,.int .i64 k]] w fun e w'=>e= .returned (.agg #[.int .i64 (Dc a k),.int .i64 k])∧Below w.heap.size w w':=by
 obtain⟨p0,p1⟩:=kin_p a0 a1 k0 k5 ha;have hb:=kin_b a0 a1 k0 k5 ha;obtain⟨s1,s2⟩:=xS k0 (by omega:k≤6);have hP:=Jl a k;generalize zx a k=p at*
 generalize Dc a k=x at*
 rcases hb with⟨rfl,rfl⟩|⟨hpa,rfl⟩
 ·go_in
  go_wp2_with fail;refine(hP _ a0 a1 k0 k5 ha).mono ?_;rintro e w1 ⟨rfl,hb1⟩;obtain⟨c1,f1⟩:=zy hb1;have z1:=hb1.size;try simp at z1 c1 f1
  have l0:w.heap.size<w1.heap.size:=om;have l1:w.heap.size+1<w1.heap.size:=om;clear hP;go_wp2;have hw:IntKind.i64.wrap (p+sz k)=p+sz k:=aY _ om;go_region_with ((go_at_call 153;refine(rR _ _ k0 om).mono ?_;rintro e w' ⟨rfl,rfl⟩))
  all_goals go_wp2
  all_goals exact bodyPost_ret (v:=.agg #[.int .i64 (p+sz k),.int .i64 k]) (by simp[results,Tryz.results171,go_sem,c1,l0,l1,hw]) rfl ⟨rfl,jY⟩
 ·have hne:(x==a)=false:=by simpa using hpa
  clear hpa;go_in
  go_wp2_with fail;refine(hP _ a0 a1 k0 k5 ha).mono ?_;rintro e w1 ⟨rfl,hb1⟩;obtain⟨c1,f1⟩:=zy hb1;have z1:=hb1.size;try simp at z1 c1 f1
  have l0:w.heap.size<w1.heap.size:=om;have l1:w.heap.size+1<w1.heap.size:=om;clear hP;go_wp2;exact bodyPost_ret (v:=.agg #[.int .i64 x,.int .i64 k]) (by simp[results,Tryz.results171,go_sem,c1,l0,l1]) rfl ⟨rfl,jY⟩
structure Keep (S:List Nat) (w w':World):Prop where
 os:w'.os=w.os
 tape:w'.tape=w.tape
 output:w'.output=w.output
 size:w.heap.size≤w'.heap.size
 block: ∀k,k<w.heap.size→k∉S→w'.heap[k]?=w.heap[k]?
theorem Keep.refl (S:List Nat) (w:World):Keep S w w:=⟨rfl,rfl,rfl,aI _,fun _ _ _=>rfl⟩
theorem Keep.of {S:List Nat} {w w':World} (h:Below w.heap.size w w'):Keep S w w':=⟨h.os,h.tape,h.output,h.size,fun k hk _=>h.block k hk⟩
theorem Keep.trans {S S':List Nat} {a b c:World} (h:Keep S a b) (k:Keep S' b c) (hs: ∀s∈S',s∈S∨a.heap.size≤s):Keep S a c:=
 ⟨k.os.trans h.os,k.tape.trans h.tape,k.output.trans h.output,bW h.size k.size,fun i hi hn=>
   (k.block i (aC hi h.size) (fun hm=>by rcases hs i hm with q|q;(·exact hn q);(·omega))).trans (h.block i hi hn)⟩
theorem Keep.then {S:List Nat} {a b c:World} (h:Keep S a b) (k:Keep S b c):Keep S a c:=h.trans k fun _ q=>.inl q
theorem Keep.mono {S S':List Nat} {w w':World} (h:Keep S w w') (hs: ∀s∈S,s∈S'):Keep S' w w':=⟨h.os,h.tape,h.output,h.size,fun k hk hn=>h.block k hk fun q=>hn (hs k q)⟩
theorem Keep.below {S:List Nat} {B:Nat} {w w':World} (h:Keep S w w') (hB:B≤w.heap.size) (hs: ∀s∈S,B≤s):Below B w w':=
 ⟨h.os,h.tape,h.output,h.size,fun k hk=>h.block k om fun q=>by have:=hs k q;omega⟩
theorem Keep.rA {w w':World} (h:Keep [] w w'):Below w.heap.size w w':=h.below (aI _) (fun _ q=>by cases q)
theorem Keep.after {S:List Nat} {B:Nat} {w0 w w':World} (h:Below B w0 w) (k:Keep S w w') (hB:B≤w.heap.size) (hs: ∀s∈S,B≤s):Below B w0 w':=h.trans (k.below hB hs)
theorem Keep.step {S:List Nat} {a b c:World} (h:Keep S a b) (k:Below b.heap.size b c):Keep S a c:=h.trans (S':=[]) (Keep.of k) (fun _ q=>by cases q)
theorem Keep.low {S:List Nat} {a b c:World} {n:Nat} (h:Keep S a b) (k:Below n b c) (hn:a.heap.size≤n):Keep S a c:=
 ⟨k.os.trans h.os,k.tape.trans h.tape,k.output.trans h.output,bW h.size k.size,fun i hi hq=>(k.block i om).trans (h.block i hi hq)⟩
theorem Keep.grown {S:List Nat} {a b c:World} {r:Nat} (h:Keep S a b) (k:b.grownBy c (some r)) (hr:r∈S∨a.heap.size≤r):Keep S a c:=
 h.trans (S':=[r]) ⟨k.os,k.tape,k.output,k.size,fun i hi hn=>k.block i hi (by simp at hn ⊢;exact hn)⟩ fun s q=>by simp at q;subst q;exact hr
theorem Keep.alloc {S:List Nat} {a b:World} (h:Keep S a b) (o:Obj):Keep S a (b.alloc o):=
 h.step ((aL _ _).alloc (aI _) o)
theorem Keep.drew {S:List Nat} {a b:World} (h:Keep S a b):Keep S a b.drew:=h.step (aL _ _).drew
theorem Keep.drewN {S:List Nat} {a b:World} (h:Keep S a b) (n:Nat):Keep S a (b.drewN n):=h.step (below_drewN (aL _ _) _)
theorem Keep.setCell {S:List Nat} {a b:World} (h:Keep S a b) {p:Addr} (hp:p.block∈S∨a.heap.size≤p.block) (u:Value):Keep S a (b.setCell p u):=
 ⟨h.os,h.tape,h.output,by simpa[World.setCell] using h.size,fun i hi hq=>(Below.heap_setCell _ _ _ _ (by rcases hp with q|q;(·exact fun e=>hq (e▸q));(·omega))).trans (h.block i hi hq)⟩
theorem kep {S:List Nat} {a b c:World} (h:Keep S a b) (g:Keep S a b→Keep S a c:=by intro h;repeat(first|exact h|refine Keep.alloc ?_ _|refine Keep.drew ?_|refine Keep.drewN ?_ _|refine Keep.setCell ?_ (.inr (by first|omega|(simp;omega)|(simp;done))) _)):Keep S a c:=g h
theorem Keep.cell {S:List Nat} {w w':World} (h:Keep S w w') {b o:Nat} (hb:b<w.heap.size) (hn:b∉S):w'.cell? ⟨b,o,none⟩=w.cell? ⟨b,o,none⟩:=dS (w:=w) (h.block b hb hn)
theorem Keep.frozen {S:List Nat} {w w':World} (h:Keep S w w') {b o:Nat} (hb:b<w.heap.size) (hn:b∉S):w'.frozen? ⟨b,o,none⟩=w.frozen? ⟨b,o,none⟩:=World.frozen?_of_block (w:=w) (h.block b hb hn)
structure Behind (w:World) where
 w':World
 h:Below w.heap.size w w'
instance behindNonempty (w:World):Nonempty (Behind w):=⟨⟨w,aL _ _⟩⟩
theorem lN {w w':World} (h: ∃p:Behind w,w'=p.w'):Below w.heap.size w w':=by
 obtain⟨p,hp⟩:=h;rw[hp];exact p.h
theorem kG {P:Program} {id:Nat} {Q:Exit→Act→World→Prop} {a:Act} {w:World} {l:List Oper} (hm:P.follows .mixedOrders=true) (hB:Region.lexB .any l.toArray=true)
 (h:wpQuiet P l.toArray (fun w'=>∃p:Behind w,w'=p.w') (fun a'=>∀w',(∃p:Behind w,w'=p.w')→Q .normal a' w') l a):(Code.region id l.toArray true).wp P Q a w:=
 wp_region_quiet (C:=fun w'=>∃p:Behind w,w'=p.w') hm hB ⟨⟨w.drew,(aL _ _).drew⟩,rfl⟩ (by simpa using h)
@[go_sem] theorem Behind.cell {w:World} (p:Behind w) (b o:Nat) (h:b<w.heap.size):p.w'.cell? ⟨b,o,none⟩=w.cell? ⟨b,o,none⟩:=p.h.cell (p:=⟨b,o,none⟩) h
@[go_sem] theorem Behind.frozen {w:World} (p:Behind w) (b o:Nat) (h:b<w.heap.size):p.w'.frozen? ⟨b,o,none⟩=w.frozen? ⟨b,o,none⟩:=p.h.frozen (p:=⟨b,o,none⟩) h
theorem _root_.Go.Calls.behind {P:Program} {f:FuncId} {args:Array Value} {w:World} {p:Behind w} {v:Value}
 (h:Calls P f args p.w' fun e w'=>e= .returned v∧Below p.w'.heap.size p.w' w'):Calls P f args p.w' fun e w''=>e= .returned v∧∃q:Behind w,w''=q.w':=
 h.mono fun _ w'' ⟨he,hb⟩=>⟨he,⟨w'',p.h.trans (hb.mono p.h.size)⟩,rfl⟩
theorem lJ {P:Program} {id:Nat} {Q:Exit→Act→World→Prop} {a:Act} {w:World} {l:List Oper} (n:Nat) (hm:P.follows .mixedOrders=true) (hB:Region.lexTailB .any l.toArray n=true)
 (h:wpStill P l.toArray w.drew (fun a'=>wpList P l.toArray Q (l.drop n) a' w.drew) (l.take n) a):(Code.region id l.toArray true).wp P Q a w:=
 wp_region_still_tail n hm hB h
def l8 (l:List (Int×Int)):List Value:=l.flatMap fun b=>[.int .i64 b.1,.int .i64 b.2]
theorem lY (l:List (Int×Int)) (b:Int×Int):l8 (l++[b])=l8 l++[.int .i64 b.1,.int .i64 b.2]:=by simp[l8]
theorem lU (l:List (Int×Int)):(l8 l).length=2*l.length:=by
 induction l with
 |nil=>rfl
 |cons b r ih=>simp[l8] at ih ⊢;omega
theorem infoB:(prog.info? 213).map (fun i=>(i.zero,i.size,i.bytes))=some (some (.agg #[.int .i64 0,.int .i64 0]),2,16):=kR
theorem oK (w:World) (u0 u1:Value) (t:TypeId): ∀j u,[u0,u1][j]?=some u→(w.alloc (.cells #[u0,u1] t)).cell? ((⟨w.heap.size,0,none⟩:Addr).add j)=some u:=by
 intro j u hu;match j,hu with
 |0,hu=>simp at hu;subst hu;simp[Addr.add]
 |1,hu=>simp at hu;subst hu;simp[Addr.add]
theorem oL (a k:Int): ∀u∈[Value.int .i64 a,Value.int .i64 k],u.oneCell'=true:=by
 intro u hu;simp at hu;rcases hu with rfl|rfl<;>rfl
def PI (w w':World) (v:Value) (l:List (Int×Int)):Prop:=w'.ownsRow w.heap.size 213 2 v l.length (l8 l)∧Below w.heap.size w w'
def UD (w:World) (l:List (Int×Int)) (x:Value) (e:Ending) (w':World):Prop:=∃v,e= .returned (.tuple #[v,x])∧PI w w' v l
theorem cover_ok (a n:Int) (w:World) (a0:0≤a) (n0:0≤n) (h:a+n≤256):
 Calls prog 120 #[.int .i64 a,.int .i64 n] w (UD w (wm a n) .nilIface):=by
 obtain⟨i0,hi,hz0,hz1,hz2⟩:=info_parts infoB;have hlen:=xW n.toNat a n (aI _);have d1:decide (a<0)=false:=dQf om;have d2:decide (n<0)=false:=dQf om;have d3:decide (256<a)=false:=dQf om;have d4:decide (256-a<n)=false:=dQf om;go_in
 go_wp2_with fail;clear d1 d2 d3 d4;go_loopw [0,1,6] (fun xa xn v wr=>∃(x m:Int) (done:List (Int×Int)),xa= .int .i64 x∧xn= .int .i64 m∧0≤x∧0≤m∧x+m≤256∧wm a n=done++wm x m∧wr.ownsRow w.heap.size 213 2 v done.length (l8 done)∧Below w.heap.size w wr) (fun _ xn _ _=>(intOf xn).toNat);case atStart=>exact⟨a,n,[],rfl,rfl,a0,n0,h,rfl,aT _ _ _ _,aL _ _⟩
 case round=>
  obtain⟨x,m,done,rfl,rfl,x0,m0,hxm,Sd,hown,hbel⟩:=hrel;have hdl:(done.length:Int)≤n.toNat:=by rw[Sd] at hlen;simp at hlen;omega
  by_cases hm:m<1
  ·have e:m=0:=by omega
   subst e;rw[rQ (bZ _),dw] at Sd;have HC:=ah Sd;clear Sd;go_wp2;go_ret2
   exact⟨_,rfl,by rw[HC.out];exact⟨hown,hbel⟩⟩
  ·have hst:=wE (a:=x) (n:=m) om
   obtain⟨k0,k6⟩:=wD x m;obtain⟨s1,s2⟩:=xS k0 k6;obtain⟨f1,f2⟩:=Ba (a:=x) (n:=m) om;have hmax:=fun j:Int=>Fp (a:=x) (n:=m) (k:=j)
   have hm1:1≤m:=om;clear hm;generalize xJ x m=k at*
   have HST:=ah hst;have HMAX:=ah hmax;have F1:=ah f1;have HC:=ah Sd;clear hst hmax f1 Sd;go_wp2;go_loop [7] (fun kv=>∃j:Int,k≤j∧j≤6∧kv= .int .i64 j) (fun kv=>(intOf kv).toNat)
   case atStart=>exact⟨6,k6,om,rfl⟩
   case round=>
    obtain⟨j,hkj,hj6,rfl⟩:=hrel;have hs:=xV (k:=j) om hj6;have hn:=and_sz (a:=x) (k:=j) x0 om om hj6;obtain⟨t1,t2⟩:=xS (k:=j) om hj6;by_cases hlt:k<j
    ·have hno:=HMAX.out j hj6 hlt
     by_cases hx:x % sz j=0
     ·have hbig:m<sz j:=by
       rcases Int.lt_or_le m (sz j) with h'|h'
       ·exact h'
       ·exact absurd ⟨hx,h'⟩ hno
      have hb:(x % sz j !=0)=false:=by simp[hx]
      clear hno hx;go_wp2;go_round
      case rel=>exact⟨j-1,om,om,rfl⟩
      case measure=>simp[intOf];omega
     ·have hb:(x % sz j !=0)=true:=by simp[hx]
      clear hno hx;go_wp2;go_round
      case rel=>exact⟨j-1,om,om,rfl⟩
      case measure=>simp[intOf];omega
    ·obtain rfl:j=k:=by omega
     have hb:(x % sz j !=0)=false:=by simp[F1.out]
     have hle:sz j≤m:=f2;go_wp2_with (first|(at_builtin;refine wpList_append_own _ rfl _ _ 235 rfl w.heap.size 213 i0 (.agg #[.int .i64 0,.int .i64 0]) 2 16 gM hi hz0 hz1 hz2 rfl (by decide) _ _ _ rfl (hown.alloc _) ⟨wr.heap.size,0,none⟩ 1 1 [.int .i64 x,.int .i64 j] rfl rfl (oK _ _ _ _) (oL _ _) ?c3 ?c4 ?c5 ?_));case c3=>unfold maxLen;omega
     case c4=>omega
     case c5=>have:=hbel.size;simp;omega
     intro v' w1 hown' hgrow _;have Jm:Below w.heap.size w w1:=(hbel.alloc hbel.size _).grown hgrow (by have:=hbel.size;simp;omega) (fun r hr=>(hown.lt r hr).1);have OW:=ah hown';clear hown' hgrow hown hbel;go_wp2;go_quiet (fail);go_wp2;go_roundw;case rel=>
      refine⟨x+sz j,m-sz j,done++[(x,j)],rfl,rfl,om,om,om,?_,?_,?_⟩
      ·rw[HC.out,HST.out];simp
      ·rw[lY];exact(show w1.ownsRow _ _ _ _ _ _ by simpa using OW.out)
      ·exact below_drewN Jm _
     case measure=>simp[intOf];omega
def RowB (N:Nat) (w:World) (v:Value) (l:List (Int×Int)):Prop:=
 (v= .slice none 0 0∧l=[])∨∃g cap,v= .slice (some ⟨g,0,none⟩) l.length cap∧l.length≤maxLen∧g<N∧N≤w.heap.size∧
   ∀j a k,l[j]?=some (a,k)→w.cell? ⟨g,j*2,none⟩=some (.int .i64 a)∧w.cell? ⟨g,j*2+1,none⟩=some (.int .i64 k)
theorem vJ: ∀(l:List (Int×Int)) (j:Nat) (a k:Int),l[j]?=some (a,k)→(l8 l)[j*2]?=some (.int .i64 a)∧(l8 l)[j*2+1]?=some (.int .i64 k)
 |[],j,a,k,h=>by simp at h
 |b::r,0,a,k,h=>by
  simp at h;subst h;simp[l8]
 |b::r,j+1,a,k,h=>by
  have ih:=vJ r j a k (by simpa using h);have e:l8 (b::r)= .int .i64 b.1:: .int .i64 b.2::l8 r:=by simp[l8]
  rw[e,show(j+1)*2=j*2+1+1 from om,show j*2+1+1+1=(j*2+1)+1+1 from rfl];simpa using ih
def Bg (w:World) (g:Nat) (l:List (Int×Int)):Prop:=
 ∀j a k,l[j]?=some (a,k)→(w.cell? ⟨g,j*2,none⟩=some (.int .i64 a)∧w.cell? ⟨g,j*2+1,none⟩=some (.int .i64 k))∧w.frozen? ⟨g,j*2,none⟩=false∧w.frozen? ⟨g,j*2+1,none⟩=false
theorem wG {w:World} {g:Nat} {cur:Array Value} {e:TypeId} (h:w.heap[g]?=some (.cells cur e (0,0))) (o:Nat):w.frozen? ⟨g,o,none⟩=false:=by
 simp[World.frozen?,h]
theorem PI.mrow {w w':World} {v:Value} {l:List (Int×Int)} (h:PI w w' v l):
 (v= .slice none 0 0∧l=[])∨∃g cap,v= .slice (some ⟨g,0,none⟩) l.length cap∧w.heap.size≤g∧g<w'.heap.size∧l.length≤cap∧Bg w' g l:=by
 obtain⟨ho,_⟩:=h;have ho':=ho;obtain⟨_,h2⟩:=ho;rcases h2 with⟨rfl,h3⟩|⟨g,cap,cur,rfl,hg,hh,hcap,_⟩
 ·refine .inl ⟨rfl,?_⟩
  cases l with
  |nil=>rfl
  |cons b r=>simp at h3
 ·refine .inr ⟨g,cap,rfl,hg,(ho'.lt g rfl).2,hcap,fun j a k hj=> ?_⟩
  have hlt:j<l.length:=(au.1 hj).1;obtain⟨e1,e2⟩:=vJ l j a k hj;refine⟨?_,wG hh _,wG hh _⟩;rw[ho'.cellAt (j*2) om,ho'.cellAt (j*2+1) om];exact⟨e1,e2⟩
theorem Bg.keep {S:List Nat} {w w':World} {g:Nat} {l:List (Int×Int)} (h:Bg w g l) (k:Keep S w w') (hg:g<w.heap.size) (hn:g∉S):Bg w' g l:=fun j a b hj=>by
 rw[k.cell hg hn,k.cell hg hn,k.frozen hg hn,k.frozen hg hn];exact h j a b hj
theorem kH {w:World} {g o o':Nat} (u:Value) (h:o≠o'):(w.setCell ⟨g,o,none⟩ u).cell? ⟨g,o',none⟩=w.cell? ⟨g,o',none⟩:=by
 simp only[World.cell?,World.setCell,gT];simp;cases w.heap[g]? with
 |none=>rfl
 |some ob=>cases ob<;>simp[h]
theorem uH {w:World} {g o b o':Nat} (u:Value) (h:g≠b):(w.setCell ⟨g,o,none⟩ u).cell? ⟨b,o',none⟩=w.cell? ⟨b,o',none⟩:=by
 simp only[World.cell?,World.setCell,gT,if_neg h]
theorem kZ {w:World} {g o:Nat} {x:Value} (u:Value) (h:w.cell? ⟨g,o,none⟩=some x):(w.setCell ⟨g,o,none⟩ u).cell? ⟨g,o,none⟩=some u:=by
 simp only[World.cell?,World.setCell,gT] at*
 cases e:w.heap[g]? with
 |none=>rw[e] at h;simp at h
 |some ob=>
  rw[e] at h;cases ob with
  |cells cs t r=>
   simp at h ⊢;have:o<cs.size:=by
    rcases dU o cs.size with q|q
    ·exact q
    ·rw[eO q] at h;cases h
   simp[this]
  |_=>simp at h
theorem kX {w:World} {g o:Nat} (u:Value) (b o':Nat):(w.setCell ⟨g,o,none⟩ u).frozen? ⟨b,o',none⟩=w.frozen? ⟨b,o',none⟩:=by
 simp only[World.frozen?,World.setCell,gT];by_cases h:g=b
 ·subst h
  simp;cases w.heap[g]? with
  |none=>rfl
  |some ob=>cases ob<;>simp
 ·simp[h]
theorem Bg.set {w:World} {g:Nat} {l:List (Int×Int)} (h:Bg w g l) {i:Nat} (hi:i<l.length) (a k:Int):
 Bg ((w.setCell ⟨g,i*2,none⟩ (.int .i64 a)).setCell ⟨g,i*2+1,none⟩ (.int .i64 k)) g (l.set i (a,k)):=by
 intro j x y hj;obtain⟨x0,hx0⟩: ∃p,l[i]?=some p:=⟨l[i],aA _⟩;obtain⟨p0,p1⟩:=x0;obtain⟨⟨q1,q2⟩,q3,q4⟩:=h i p0 p1 hx0;by_cases e:i=j
 ·subst e
  rw[aZ hi] at hj;simp at hj;obtain⟨rfl,rfl⟩:=hj;refine⟨⟨?_,?_⟩,?_,?_⟩
  ·rw[kH _ om,kZ _ q1]
  ·rw[kZ (x:=.int .i64 p1) _ (by rw[kH _ om];exact q2)]
  ·rw[kX,kX];exact q3
  ·rw[kX,kX];exact q4
 ·rw[bQ e] at hj
  obtain⟨⟨r1,r2⟩,r3,r4⟩:=h j x y hj;refine⟨⟨?_,?_⟩,?_,?_⟩
  ·rw[kH _ om,kH _ om];exact r1
  ·rw[kH _ om,kH _ om];exact r2
  ·rw[kX,kX];exact r3
  ·rw[kX,kX];exact r4
structure uI (p:Int×Int→Bool) (F:List (Int×Int)) (i j:Nat) (L:List (Int×Int)):Prop where
 len:L.length=F.length
 lt:i<j
 le:j≤F.length
 low:L.take i=(F.take j).filter fun x=> !p x
 high:L.drop j=F.drop j
theorem uI.start {p:Int×Int→Bool} {F:List (Int×Int)} {i:Nat} {z:Int×Int} (hz:F[i]?=some z) (hp:p z=true) (hall: ∀x∈F.take i,p x=false):uI p F i (i+1) F:=by
 refine⟨rfl,om,(au.1 hz).1,?_,rfl⟩;rw[bR,hz,gL];simp[hp];exact(dN.2 fun x hx=>by simp[hall x hx]).symm
theorem uI.at {p:Int×Int→Bool} {F L:List (Int×Int)} {i j:Nat} (h:uI p F i j L) (m:Nat) (hm:j≤m):L[m]?=F[m]?:=by
 have:=congrArg (fun l=>l[m-j]?) h.high;simp only[cO] at this;rwa [show j+(m-j)=m by omega] at this
theorem uI.skip {p:Int×Int→Bool} {F L:List (Int×Int)} {i j:Nat} {z:Int×Int} (h:uI p F i j L) (hz:F[j]?=some z) (hp:p z=true):uI p F i (j+1) L:=by
 have hl:=h.len;have hj:=(au.1 hz).1;have hlt:=h.lt;refine⟨hl,om,om,?_,?_⟩
 ·rw[bR,hz,gL,←h.low];simp[hp]
 ·have:=congrArg (List.drop 1) h.high
  simpa[List.drop_drop] using this
theorem uI.keep {p:Int×Int→Bool} {F L:List (Int×Int)} {i j:Nat} {z:Int×Int} (h:uI p F i j L) (hz:F[j]?=some z) (hp:p z=false):uI p F (i+1) (j+1) (L.set i z):=by
 have hl:=h.len;have hj:=(au.1 hz).1;have hlt:=h.lt;refine⟨by simp[hl],om,om,?_,?_⟩
 ·have e1:F.take (j+1)=F.take j++[z]:=by rw[bR,hz];rfl
  have e2:(L.set i z).take (i+1)=L.take i++[z]:=by rw[bR,aZ om,List.take_set_of_le (aI _)];rfl
  rw[e1,e2,gL,←h.low];simp[hp]
 ·rw[List.drop_set_of_lt om]
  have:=congrArg (List.drop 1) h.high;simpa[List.drop_drop] using this
theorem uI.done {p:Int×Int→Bool} {F L:List (Int×Int)} {i:Nat} (h:uI p F i F.length L):L.take i=(F.filter fun x=> !p x)∧i=(F.filter fun x=> !p x).length∧i<L.length:=by
 have h1:=h.low;have h2:=h.lt;have h3:=h.len;rw[bU] at h1;exact⟨h1,by rw[←h1,bD];omega,om⟩
def RowS (base:Nat) (w:World) (v:Value) (l:List (Int×Int)):Prop:=
 ∃p cap,v= .slice p l.length cap∧(l=[]→p=none∧cap=0∨∃g,p=some ⟨g,0,none⟩∧base≤g∧g<w.heap.size)∧
  ∀j a k,l[j]?=some (a,k)→∃g,p=some ⟨g,0,none⟩∧base≤g∧g<w.heap.size∧w.cell? ⟨g,j*2,none⟩=some (.int .i64 a)∧w.cell? ⟨g,j*2+1,none⟩=some (.int .i64 k)
def RowC (w:World) (g:Nat) (l:List (Int×Int)):Prop:=∀j a k,l[j]?=some (a,k)→w.cell? ⟨g,j*2,none⟩=some (.int .i64 a)∧w.cell? ⟨g,j*2+1,none⟩=some (.int .i64 k)
def Jb (base:Nat) (w:World) (v:Value) (l:List (Int×Int)):Prop:=
 (v= .slice none 0 0∧l=[])∨∃g cap,v= .slice (some ⟨g,0,none⟩) l.length cap∧l.length≤cap∧cap≤maxLen∧base≤g∧g<w.heap.size∧RowC w g l
theorem PI.Sg {w w':World} {v:Value} {l:List (Int×Int)} (h:PI w w' v l):Jb w.heap.size w' v l:=by
 obtain⟨ho,_⟩:=h;have ho':=ho;obtain⟨_,h2⟩:=ho;rcases h2 with⟨rfl,h3⟩|⟨g,cap,cur,rfl,hg,hh,hcap,hmax,_⟩
 ·refine .inl ⟨rfl,?_⟩
  cases l with
  |nil=>rfl
  |cons b r=>simp at h3
 ·refine .inr ⟨g,cap,rfl,hcap,hmax,hg,(ho'.lt g rfl).2,fun j a k hj=> ?_⟩
  have hlt:j<l.length:=(au.1 hj).1;obtain⟨e1,e2⟩:=vJ l j a k hj;rw[ho'.cellAt (j*2) om,ho'.cellAt (j*2+1) om];exact⟨e1,e2⟩
theorem RowC.keep {S:List Nat} {w w':World} {g:Nat} {l:List (Int×Int)} (h:RowC w g l) (k:Keep S w w') (hg:g<w.heap.size) (hn:g∉S):RowC w' g l:=fun j a b hj=>by
 rw[k.cell hg hn,k.cell hg hn];exact h j a b hj
theorem Jb.keep {S:List Nat} {base:Nat} {w w':World} {v:Value} {l:List (Int×Int)} (h:Jb base w v l) (k:Keep S w w') (hs: ∀s∈S,s<base):Jb base w' v l:=by
 rcases h with h|⟨g,cap,h1,h2,h3,h4,h5,h6⟩
 ·exact .inl h
 ·exact .inr ⟨g,cap,h1,h2,h3,h4,aC h5 k.size,h6.keep k h5 fun q=>by have:=hs g q;omega⟩
theorem Jb.below {base:Nat} {w w':World} {v:Value} {l:List (Int×Int)} (h:Jb base w v l) (k:Below w.heap.size w w'):Jb base w' v l:=h.keep (Keep.of (S:=[]) k) (fun _ q=>by cases q)
theorem Jb.mono {base base':Nat} {w:World} {v:Value} {l:List (Int×Int)} (h:Jb base w v l) (hb:base'≤base):Jb base' w v l:=by
 rcases h with h|⟨g,cap,h1,h2,h3,h4,h5⟩
 ·exact .inl h
 ·exact .inr ⟨g,cap,h1,h2,h3,om,h5⟩
theorem qD (l m:List (Int×Int)):l8 (l++m)=l8 l++l8 m:=by simp[l8]
theorem qP (l:List (Int×Int)): ∀u∈l8 l,u.oneCell'=true:=by
 intro u hu;simp only[l8,eB] at hu;obtain⟨x,_,hx⟩:=hu;simp at hx;rcases hx with rfl|rfl<;>rfl
theorem Ea {w:World} {g o:Nat}: ∀{l:List (Int×Int)},(∀j a k,l[j]?=some (a,k)→w.cell? ⟨g,o+j*2,none⟩=some (.int .i64 a)∧w.cell? ⟨g,o+j*2+1,none⟩=some (.int .i64 k))→∀j u,(l8 l)[j]?=some u→w.cell? ((⟨g,o,none⟩:Addr).add j)=some u:=by
 intro l h j u hu;have hl:j<(l8 l).length:=(au.1 hu).1;rw[lU] at hl;obtain⟨p,hp⟩: ∃p,l[j / 2]?=some p:=⟨l[j / 2]' om,aA _⟩;obtain⟨a,k⟩:=p;obtain⟨e1,e2⟩:=vJ l _ a k hp;obtain⟨h1,h2⟩:=h _ a k hp;have had:(⟨g,o,none⟩:Addr).add j=⟨g,o+j,none⟩:=by
  unfold Addr.add;split
  ·rename_i e;rw[e];rfl
  ·rfl
 rw[had];have:j=j / 2*2∨j=j / 2*2+1:=om;rcases this with e|e
 ·rw[e] at hu ⊢
  rw[e1] at hu;rw[←aO hu];exact h1
 ·rw[e] at hu ⊢
  rw[e2] at hu;rw[←aO hu,←Nat.add_assoc];exact h2
def Src (w:World) (p:Option Addr) (m:List (Int×Int)):Prop:=
 (p=none∧m=[])∨∃g o,p=some ⟨g,o,none⟩∧∀j a k,m[j]?=some (a,k)→w.cell? ⟨g,o+j*2,none⟩=some (.int .i64 a)∧w.cell? ⟨g,o+j*2+1,none⟩=some (.int .i64 k)
theorem UE {w:World} (ty:TypeId) {base:Nat} {v:Value} {l:List (Int×Int)} (hown:w.ownsRow base 213 2 v l.length (l8 l)) {p:Option Addr} {c:Nat} {m:List (Int×Int)} (hs:Src w p m) (hl:l.length+m.length≤65536) (hb:base≤w.heap.size):
 ∃v' w',(Builtin.append_ #[235,235] ty #[v,.slice p m.length c]).run prog w= .ok v' w'∧w'.ownsRow base 213 2 v' (l++m).length (l8 (l++m))∧w.grownBy w' v.ownBlock:=by
 obtain⟨i0,hi,hz0,hz1,hz2⟩:=info_parts infoB;have ht:=gM;rcases hs with⟨rfl,rfl⟩|⟨g,o,rfl,hc⟩
 ·refine⟨v,w,?_,by simpa using hown,⟨rfl,rfl,rfl,aI _,fun _ _ _=>rfl⟩⟩
  rcases hown.2 with⟨rfl,_⟩|⟨g,cap,cur,rfl,_,_,hnc,_⟩
  ·simp[Builtin.append_,run_underlying ht,sizeOf,typeInfo,hi,Builtin.lenOf,Builtin.firstCells]
  ·simp[Builtin.append_,run_underlying ht,sizeOf,typeInfo,hi,Builtin.lenOf,Builtin.firstCells,hnc,storeCells]
 ·obtain⟨v',w',hrun,h2,h3,_,_⟩:=run_append_own_at (P:=prog) w base 235 ty 213 i0 (.agg #[.int .i64 0,.int .i64 0]) 2 16 ht hi hz0 hz1 hz2 rfl om v l.length (l8 l) hown ⟨g,o,none⟩ m.length c (l8 m)
   (by rw[lU];omega) (Ea hc) (qP m) (by unfold maxLen;omega) om hb
  exact⟨v',w',hrun,by rw[aW,qD];exact h2,h3⟩
theorem mq {base:Nat} {v:Value} {l m:List (Int×Int)} {w:World} {p:Option Addr} {c:Nat} {ops:Array Oper} {rest:List Oper} {o:Oper} {a:Act} {Q:Exit→Act→World→Prop} (hgd:o.guard=none) (s x:Operand)
 (ho:o.op= .call {callee:=.builtin .append,args:=#[s,x],argTypes:=#[235,235]}) (hv:a.eval s=v) (mn:Nat) (hx:a.eval x= .slice p mn c) (hmn:m.length=mn)
 (hown:w.ownsRow base 213 2 v l.length (l8 l)) (hs:Src w p m) (hl:l.length+m.length≤65536) (hb:base≤w.heap.size)
 (h: ∀v' w',w'.ownsRow base 213 2 v' (l++m).length (l8 (l++m))→w.grownBy w' v.ownBlock→wpList prog ops Q rest (a.put o.dst v') w'):wpList prog ops Q (o::rest) a w:=by
 subst hmn;refine wpList_plain hgd fun K hK=> ?_
 obtain⟨v',w',hrun,h2,h3⟩:=UE (w:=w) o.type hown hs hl hb (c:=c);unfold Oper.wp execOp;simp only[ho,resolve,invoke,builtin,fH,fQ,dZ,eD,bH,eu,hv,hx,hrun];exact hK _ _ (h v' w' h2 h3)
def nO (X:List Nat) (w:World) (v:Value) (us:List Value):Prop:=
 ∃p cap,v= .slice p us.length cap∧us.length≤cap∧cap≤maxLen∧∀j u,us[j]?=some u→∃g off,p=some ⟨g,off,none⟩∧g∉X∧g<w.heap.size∧w.cell? ⟨g,off+j,none⟩=some u
theorem nO.keep {X S:List Nat} {w w':World} {v:Value} {us:List Value} (h:nO X w v us) (k:Keep S w w') (hs: ∀s∈S,s∈X∨w.heap.size≤s):nO X w' v us:=by
 obtain⟨p,cap,h1,h2,h3,h4⟩:=h;refine⟨p,cap,h1,h2,h3,fun j u hj=> ?_⟩;obtain⟨g,off,e1,e2,e3,e4⟩:=h4 j u hj;exact⟨g,off,e1,e2,aC e3 k.size,(k.cell e3 fun q=>by rcases hs g q with r|r;(·exact e2 r);(·omega)).trans e4⟩
theorem nO.below {X:List Nat} {w w':World} {v:Value} {us:List Value} (h:nO X w v us) (k:Below w.heap.size w w'):nO X w' v us:=h.keep (Keep.of (S:=[]) k) (fun _ q=>by cases q)
theorem nO.more {X Y:List Nat} {w:World} {v:Value} {us:List Value} (h:nO X w v us) (hY: ∀y∈Y,y∈X∨w.heap.size≤y):nO Y w v us:=by
 obtain⟨p,cap,h1,h2,h3,h4⟩:=h;refine⟨p,cap,h1,h2,h3,fun j u hj=> ?_⟩;obtain⟨g,off,e1,e2,e3,e4⟩:=h4 j u hj;exact⟨g,off,e1,fun q=>by rcases hY g q with r|r;(·exact e2 r);(·omega),e3,e4⟩
theorem nO.sub {X Y:List Nat} {w:World} {v:Value} {us:List Value} (h:nO Y w v us) (hX: ∀x∈X,x∈Y):nO X w v us:=by
 obtain⟨p,cap,h1,h2,h3,h4⟩:=h;refine⟨p,cap,h1,h2,h3,fun j u hj=> ?_⟩;obtain⟨g,off,e1,e2,e3,e4⟩:=h4 j u hj;exact⟨g,off,e1,fun q=>e2 (hX g q),e3,e4⟩
theorem nO.nil (X:List Nat) (w:World):nO X w (.slice none 0 0) []:=⟨none,0,rfl,aI _,bq _,fun j u hj=>by simp at hj⟩
theorem nO.form {X:List Nat} {w:World} {v:Value} {us:List Value} (h:nO X w v us): ∃p cap,v= .slice p us.length cap∧us.length≤cap∧cap≤maxLen∧∀j u,us[j]?=some u→∃g off,p=some ⟨g,off,none⟩∧g∉X∧g<w.heap.size∧w.cell? ⟨g,off+j,none⟩=some u:=h
theorem qA {X:List Nat} {w:World} {base:Nat} {E:TypeId} {v:Value} {us:List Value} (h:w.ownsRow base E 1 v us.length us) (hX: ∀x∈X,∀g,v.ownBlock=some g→x≠g):nO X w v us:=by
 have ho:=h;rcases h.2 with⟨rfl,h3⟩|⟨g,cap,cur,rfl,hg,hh,hcap,hmax,_⟩
 ·cases us with
  |nil=>exact nO.nil X w
  |cons b r=>simp at h3
 ·refine⟨some ⟨g,0,none⟩,cap,rfl,hcap,hmax,fun j u hj=>⟨g,0,rfl,fun q=>hX g q g rfl rfl,(ho.lt g rfl).2,?_⟩⟩
  have hlt:j<us.length:=(au.1 hj).1;rw[bK,ho.cellAt j om];exact hj
structure El (T E:TypeId) (z:Value) (b:Nat):Prop where
 und:prog.underlying T=some (.slice E)
 info:(prog.info? E).map (fun i=>(i.zero,i.size,i.bytes))=some (some z,1,b)
 one:z.cells.size=1
 few:b≤64
def uP (w:World) (p:Option Addr) (ms:List Value):Prop:=
 (p=none∧ms=[])∨∃a:Addr,p=some a∧∀(j:Nat) (u:Value),ms[j]?=some u→w.cell? (a.add j)=some u
theorem addr_add (g o j:Nat):(⟨g,o,none⟩:Addr).add j=⟨g,o+j,none⟩:=by
 unfold Addr.add;split
 ·rename_i e;rw[e];rfl
 ·rfl
theorem nO.src {X:List Nat} {w:World} {p:Option Addr} {n cap:Nat} {us:List Value} (h:nO X w (.slice p n cap) us):uP w p us:=by
 obtain⟨q,c,h1,_,_,h4⟩:=h;injection h1 with h1 _ _;subst h1;cases p with
 |none=>
  refine .inl ⟨rfl,?_⟩;cases us with
  |nil=>rfl
  |cons u r=>obtain⟨g,off,e,_⟩:=h4 0 u rfl;cases e
 |some a=>
  refine .inr ⟨a,rfl,fun j u hj=> ?_⟩;obtain⟨g',o',e,_,_,e4⟩:=h4 j u hj;injection e with e;subst e;rw[addr_add];exact e4
theorem PK {T E:TypeId} {z:Value} {b:Nat} (hE:El T E z b) {w:World} (ty:TypeId) {base:Nat} {v:Value} {us:List Value} (hown:w.ownsRow base E 1 v us.length us) {p:Option Addr} {c:Nat} {ms:List Value} (hs:uP w p ms) (h1: ∀u∈ms,u.oneCell'=true)
 (hl:us.length+ms.length≤65536) (hb:base≤w.heap.size):
 ∃q k w',(Builtin.append_ #[T,T] ty #[v,.slice p ms.length c]).run prog w= .ok (.slice q (us++ms).length k) w'∧w'.ownsRow base E 1 (.slice q (us++ms).length k) (us++ms).length (us++ms)∧w.grownBy w' v.ownBlock∧
  ((Value.slice q (us++ms).length k).ownBlock=v.ownBlock∨(Value.slice q (us++ms).length k).ownBlock=some w.heap.size):=by
 obtain⟨i0,hi,hz0,hz1,hz2⟩:=info_parts hE.info;have ht:=hE.und;have zY:=hE.few;rcases hs with⟨rfl,rfl⟩|⟨a,rfl,hc⟩
 ·rcases hown.2 with⟨rfl,hu⟩|⟨g,cap,cur,rfl,_,_,hnc,_⟩
  ·refine⟨none,0,w,?_,?_,⟨rfl,rfl,rfl,aI _,fun _ _ _=>rfl⟩,.inl rfl⟩
   ·simp[Builtin.append_,run_underlying ht,sizeOf,typeInfo,hi,Builtin.lenOf,Builtin.firstCells,hu]
   ·have hu':us=[]:=bM.1 hu
    subst hu';exact hown
  ·refine⟨some ⟨g,0,none⟩,cap,w,?_,by simpa using hown,⟨rfl,rfl,rfl,aI _,fun _ _ _=>rfl⟩,.inl rfl⟩
   simp[Builtin.append_,run_underlying ht,sizeOf,typeInfo,hi,Builtin.lenOf,Builtin.firstCells,hnc,storeCells]
 ·obtain⟨v',w',hrun,h2,h3,_,h5⟩:=run_append_own_at (P:=prog) w base T ty E i0 z 1 b ht hi hz0 hz1 hz2 hE.one om v us.length us hown a ms.length c ms
   om hc h1 (by unfold maxLen;omega) (by
    have:(us.length+ms.length)*b≤65536*64:=eP hl zY;omega) hb
  have hf: ∃q k,v'= .slice q (us.length+ms.length) k:=by
   rcases h2.2 with⟨e,e2⟩|⟨g',cap',cur,e,_⟩
   ·exact⟨none,0,by rw[e,e2]⟩
   ·exact⟨_,_,e⟩
  obtain⟨q,k,rfl⟩:=hf;rw[←aW] at hrun h2 h5;exact⟨q,k,w',hrun,h2,h3,h5⟩
theorem rD {T E:TypeId} {z:Value} {b:Nat} (hE:El T E z b) {base:Nat} {v:Value} {us ms:List Value} {w:World} {p:Option Addr} {c:Nat} {ops:Array Oper} {rest:List Oper} {o:Oper} {a:Act} {Q:Exit→Act→World→Prop} (hgd:o.guard=none) (s x:Operand)
 (ho:o.op= .call {callee:=.builtin .append,args:=#[s,x],argTypes:=#[T,T]}) (hv:a.eval s=v) (mn:Nat) (hx:a.eval x= .slice p mn c) (hmn:ms.length=mn)
 (hown:w.ownsRow base E 1 v us.length us) (hs:uP w p ms) (h1: ∀u∈ms,u.oneCell'=true) (hl:us.length+ms.length≤65536) (hb:base≤w.heap.size)
 (h: ∀q k w',w'.ownsRow base E 1 (.slice q (us++ms).length k) (us++ms).length (us++ms)→w.grownBy w' v.ownBlock→((Value.slice q (us++ms).length k).ownBlock=v.ownBlock∨(Value.slice q (us++ms).length k).ownBlock=some w.heap.size)→wpList prog ops Q rest (a.put o.dst (.slice q (us++ms).length k)) w'):wpList prog ops Q (o::rest) a w:=by
 subst hmn;refine wpList_plain hgd fun K hK=> ?_
 obtain⟨q,k,w',hrun,h2,h3,h4⟩:=PK hE (w:=w) o.type hown hs h1 hl hb (c:=c);unfold Oper.wp execOp;simp only[ho,resolve,invoke,builtin,fH,fQ,dZ,eD,bH,eu,hv,hx,hrun];exact hK _ _ (h q k w' h2 h3 h4)
theorem rU {T E:TypeId} {z:Value} {b:Nat} (hE:El T E z b) {base:Nat} {v:Value} {us ms:List Value} {w:World} {p:Option Addr} {c:Nat} {ops:Array Oper} {o:Oper} {a:Act} {K:Act→World→Prop} {Q:Exit→Act→World→Prop} {F:Prop} (hgd:o.guard=none) (s x:Operand)
 (ho:o.op= .call {callee:=.builtin .append,args:=#[s,x],argTypes:=#[T,T]}) (hv:a.eval s=v) (mn:Nat) (hx:a.eval x= .slice p mn c) (hmn:ms.length=mn)
 (hown:w.ownsRow base E 1 v us.length us) (hs:uP w p ms) (h1: ∀u∈ms,u.oneCell'=true) (hl:us.length+ms.length≤65536) (hb:base≤w.heap.size)
 (h: ∀q k w',w'.ownsRow base E 1 (.slice q (us++ms).length k) (us++ms).length (us++ms)→w.grownBy w' v.ownBlock→((Value.slice q (us++ms).length k).ownBlock=v.ownBlock∨(Value.slice q (us++ms).length k).ownBlock=some w.heap.size)→K (a.put o.dst (.slice q (us++ms).length k)) w'):
 if Region.wanted o (yielded ops a.tmps)=true then Oper.wp prog o a w K Q else F:=by
 subst hmn;have hw:Region.wanted o (yielded ops a.tmps)=true:=by simp[Region.wanted,hgd]
 rw[if_pos hw];obtain⟨q,k,w',hrun,h2,h3,h4⟩:=PK hE (w:=w) o.type hown hs h1 hl hb (c:=c);unfold Oper.wp execOp;simp only[ho,resolve,invoke,builtin,fH,fQ,dZ,eD,bH,eu,hv,hx,hrun];exact h q k w' h2 h3 h4
theorem qQ (w:World) (u:Value) (t:TypeId):uP (w.alloc (.cells #[u] t)) (some ⟨w.heap.size,0,none⟩) [u]:=
 .inr ⟨_,rfl,fun j x hj=>by
  rw[addr_add];cases j with
  |zero=>simp at hj;subst hj;rw[bE _ _ _ _ sI];rfl
  |succ j=>simp at hj⟩
theorem Below.grownK {S:List Nat} {w w':World} {r:Option Nat} (h:w.grownBy w' r) (hr: ∀g,r=some g→g∈S∨w.heap.size≤g):Keep S w w':=
 ⟨h.os,h.tape,h.output,h.size,fun k hk hn=>h.block k hk fun e=>by rcases hr k e.symm with q|q;(·exact hn q);(·omega)⟩
def jS (v:Value):List Nat:=v.ownBlock.toList
theorem o7 {v:Value} {g:Nat}:g∈jS v↔v.ownBlock=some g:=by unfold jS;cases v.ownBlock<;>simp[eq_comm]
theorem jZ {w:World} {B:Nat} {E:TypeId} {s:Nat} {v:Value} {n:Nat} {xs:List Value} (h:w.ownsRow B E s v n xs) {g:Nat} (hg:g∈jS v):B≤g∧g<w.heap.size:=h.lt g (o7.1 hg)
theorem kJ {w w':World} {v:Value} (hg:w.grownBy w' v.ownBlock):Keep (jS v) w w':=Below.grownK hg fun g e=>.inl (o7.2 e)
theorem oM {w:World} {v v':Value} (ho:v'.ownBlock=v.ownBlock∨v'.ownBlock=some w.heap.size): ∀y∈jS v',y∈jS v∨w.heap.size≤y:=by
 intro y hy;rw[o7] at hy ⊢;rcases ho with e|e
 ·exact .inl (e▸hy)
 ·rw[e] at hy;injection hy with hy;exact .inr om
theorem jQ {S:List Nat} {w w':World} {B:Nat} {E:TypeId} {s:Nat} {v:Value} {n:Nat} {xs:List Value} (h:w.ownsRow B E s v n xs) (k:Keep S w w') (hs: ∀x∈S,x∉jS v):w'.ownsRow B E s v n xs:=by
 refine⟨h.1,?_⟩;have hlt:=h.lt;rcases h.2 with hn|⟨g,cap,cur,rfl,hb,hgg,rest⟩
 ·exact .inl hn
 ·exact .inr ⟨g,cap,cur,rfl,hb,(k.block g (hlt g rfl).2 fun q=>hs g q (o7.2 rfl)).trans hgg,rest⟩
structure jR (w:World) (b:Nat) (us:List Value):Prop where
 lt:b<w.heap.size
 c: ∀j u,us[j]?=some u→w.cell? ⟨b,j,none⟩=some u
 f: ∀j,j<us.length→w.frozen? ⟨b,j,none⟩=false
theorem jR.gC {w:World} {b:Nat} {us:List Value} (h:jR w b us) (j:Nat) {u:Value} (e:us[j]?=some u:=by exact rfl):w.cell? ⟨b,j,none⟩=some u:=h.c j u e
theorem jR.keep {S:List Nat} {w w':World} {b:Nat} {us:List Value} (h:jR w b us) (k:Keep S w w') (hb:b∉S):jR w' b us:=
 ⟨aC h.lt k.size,fun j u hj=>(k.cell h.lt hb).trans (h.c j u hj),fun j hj=>(k.frozen h.lt hb).trans (h.f j hj)⟩
theorem jR.below {w w':World} {b:Nat} {us:List Value} (h:jR w b us) {n:Nat} (k:Below n w w') (hb:b<n):jR w' b us:=
 ⟨aC h.lt k.size,fun j u hj=>(k.cell (p:=⟨b,j,none⟩) hb).trans (h.c j u hj),fun j hj=>(k.frozen (p:=⟨b,j,none⟩) hb).trans (h.f j hj)⟩
theorem jR.go {w w':World} {b:Nat} {us:List Value} (h:jR w b us) (k:Below w.heap.size w w'):jR w' b us:=h.below k h.lt
theorem jR.new (w:World) (us:List Value) (t:TypeId):jR (w.alloc (.cells us.toArray t)) w.heap.size us:=
 ⟨sI,fun j u hj=>by rw[bE _ _ _ _ sI];simpa using hj,fun j hj=>cZ _ _ _ _ rfl⟩
theorem jR.store {w:World} {b:Nat} {us:List Value} (h:jR w b us) (i:Nat) (v:Value) (hi:i<us.length):jR (w.setCell ⟨b,i,none⟩ v) b (us.set i v):=by
 refine⟨by simpa[World.setCell] using h.lt,fun j u hj=> ?_,fun j hj=>by rw[kX];exact h.f j (by simpa using hj)⟩;by_cases e:i=j
 ·subst e
  rw[aZ hi] at hj;injection hj with hj;subst hj;obtain⟨x,hx⟩: ∃x,us[i]?=some x:=⟨us[i],aA _⟩;exact kZ _ (h.c i x hx)
 ·rw[bQ e] at hj
  rw[kH _ e];exact h.c j u hj
theorem jR.mk_ (w:World) (us:List Value) (t:TypeId) {b:Nat} (h:w.heap.size=b):jR (w.alloc (.cells us.toArray t)) b us:=by subst h;exact jR.new w us t
theorem jR.past {w:World} {b:Nat} {us:List Value} (h:jR w b us) (o:Obj):jR (w.alloc o) b us:=h.go ((aL _ _).alloc (aI _) o)
theorem jR.mP {w:World} {b:Nat} {us:List Value} (h:jR w b us):jR w.drew b us:=h.keep ((Keep.refl [] _).drew) sI
theorem jR.drewNL {w:World} {b:Nat} {us:List Value} (h:jR w b us) (m:Nat):jR (w.drewN m) b us:=h.keep ((Keep.refl [] _).drewN m) sI
theorem jR.far {w:World} {b c:Nat} {us:List Value} (h:jR w b us) (hb:c≠b) (o:Nat) (v:Value):jR (w.setCell ⟨c,o,none⟩ v) b us:=
 h.keep (S:=[c]) ((Keep.refl [c] _).setCell (p:=⟨c,o,none⟩) (.inl sI) v) (by simpa using fun e=>hb e.symm)
theorem jR.lq {w:World} {b:Nat} {u0 u1:Value} (h:jR w b [u0,u1]) (v0 v1:Value):jR ((w.setCell ⟨b,0,none⟩ v0).setCell ⟨b,1,none⟩ v1) b [v0,v1]:=(h.store 0 v0 sI).store 1 v1 sI
theorem jR.xM {w:World} {b:Nat} {u0 u1 u2:Value} (h:jR w b [u0,u1,u2]) (v0 v1 v2:Value):jR (((w.setCell ⟨b,0,none⟩ v0).setCell ⟨b,1,none⟩ v1).setCell ⟨b,2,none⟩ v2) b [v0,v1,v2]:=((h.store 0 v0 sI).store 1 v1 sI).store 2 v2 sI
theorem Keep.Dg {S:List Nat} {w0 w:World} {b:Nat} (h:Keep S w0 w) (hb:b∈S∨w0.heap.size≤b) (u v:Value):Keep S w0 ((w.setCell ⟨b,0,none⟩ u).setCell ⟨b,1,none⟩ v):=(h.setCell (p:=⟨b,0,none⟩) hb u).setCell (p:=⟨b,1,none⟩) hb v
theorem Keep.wide {S:List Nat} {a b:World} (h:Keep [] a b):Keep S a b:=h.mono (fun _ q=>by cases q)
theorem Keep.stepW {S:List Nat} {a b c:World} (h:Keep [] a b) (k:Below b.heap.size b c):Keep S a c:=(h.step k).wide
theorem Keep.thenW {S:List Nat} {a b c:World} (h:Keep [] a b) (k:Keep S b c):Keep S a c:=h.wide.then k
section
open Go.RowKit Go.ChangeShapes
def kW (x:Int):Prop:= -9223372036854775808≤x∧x≤9223372036854775807
theorem oW {x:Int} (h:(Lit.int .i64 x).wf=true):kW x:=by
 simp[Lit.wf,IntKind.min,IntKind.max,IntKind.signed,IntKind.bits] at h;exact⟨om,om⟩
def RowG {α:Type} (s:Nat) (cells:α→List Value) (fits:α→Prop) (w:World) (v:Value) (xs:List α):Prop:=
 ∃p cap,v= .slice p xs.length cap∧(xs.length≤cap∧cap≤maxLen)∧∀j x,xs[j]?=some x→fits x∧∃g off,p=some ⟨g,off,none⟩∧g<w.heap.size∧∀i u,(cells x)[i]?=some u→w.cell? ⟨g,off+j*s+i,none⟩=some u
end
section
open Go.RowKit Go.ChangeShapes
def RowI (w:World) (v:Value) (xs:List Int):Prop:=
 ∃p cap,v= .slice p xs.length cap∧∀j x,xs[j]?=some x→∃g off,p=some ⟨g,off,none⟩∧g<w.heap.size∧w.cell? ⟨g,off+j,none⟩=some (.int .i64 x)∧ -9223372036854775808≤x∧x≤9223372036854775807
end
def Row1 (w:World) (g:Nat) (e:TypeId) (cs:List Value):Prop:=∃cur:Array Value,w.heap[g]?=some (.cells cur e (0,0))∧cur.toList=cs
theorem Row1.lt {w:World} {g:Nat} {e:TypeId} {cs:List Value} (h:Row1 w g e cs):g<w.heap.size:=by
 obtain⟨cur,h1,_⟩:=h;rcases dU g w.heap.size with q|q
 ·exact q
 ·rw[eO q] at h1;cases h1
theorem Row1.keep {S:List Nat} {w w':World} {g:Nat} {e:TypeId} {cs:List Value} (h:Row1 w g e cs) (k:Keep S w w') (hg:g∉S):Row1 w' g e cs:=by
 have hl:=h.lt;obtain⟨cur,h1,h2⟩:=h;exact⟨cur,(k.block g hl hg).trans h1,h2⟩
theorem Row1.loc {w:World} {g:Nat} {e:TypeId} {cs:List Value} (h:Row1 w g e cs):jR w g cs:=by
 have hl:=h.lt;obtain⟨cur,h1,rfl⟩:=h;refine⟨hl,fun j u hj=> ?_,fun j hj=> ?_⟩
 ·simp only[World.cell?,h1]
  simpa using hj
 ·simp only[World.frozen?,h1]
  simp
theorem Row1.drew {w:World} {g:Nat} {e:TypeId} {cs:List Value} (h:Row1 w g e cs):Row1 w.drew g e cs:=h
theorem Row1.set {w:World} {g:Nat} {e:TypeId} {cs:List Value} (h:Row1 w g e cs) (o:Nat) (v:Value):Row1 (w.setCell ⟨g,o,none⟩ v) g e (cs.set o v):=by
 obtain⟨cur,h1,rfl⟩:=h;refine⟨cur.setIfInBounds o v,?_,sI⟩;simp only[World.setCell,gT,h1];simp
theorem Row1.sets {g:Nat} {e:TypeId}: ∀(vs:List Value) {w:World} {cs:List Value} (o:Nat),Row1 w g e cs→o+vs.length≤cs.length→Row1 (w.setCells g o vs) g e (cs.take o++vs++cs.drop (o+vs.length))
 |[],w,cs,o,h,hl=>by simpa[World.setCells] using h
 |v::r,w,cs,o,h,hl=>by
  have:=Row1.sets r (o+1) (h.set o v) (by simp at hl ⊢;omega);rw[World.setCells];have e1:(cs.set o v).take (o+1)++r++(cs.set o v).drop (o+1+r.length)=cs.take o++v::r++cs.drop (o+(r.length+1)):=by
   simp at hl;apply jy;intro i;simp only[List.getElem?_append,aW,bD,cu,dB,fC,List.getElem?_set,cO,List.getElem?_cons];rcases gW i o with q|q|q
   ·simp[show i<o+1 by omega,show i<min (o+1) cs.length+r.length by omega,show i<min (o+1) cs.length by omega,show i<min o cs.length+(r.length+1) by omega,show i<min o cs.length by omega,q,show o≠i by omega]
   ·subst q
    simp[show i<min (i+1) cs.length+r.length by omega,show i<min (i+1) cs.length by omega,show¬i<min i cs.length by omega,show i<min i cs.length+(r.length+1) by omega,show i<cs.length by omega,show i-min i cs.length=0 by omega]
   ·by_cases q2:i<o+1+r.length
    ·have a1:i<min (o+1) cs.length+r.length:=by omega
     have a2: ¬i<min (o+1) cs.length:=om;have a3:i<min o cs.length+(r.length+1):=om;have a4: ¬i<min o cs.length:=om;have a5: ¬(i-min o cs.length=0):=om;simp only[a1,a2,a3,a4,a5,if_true,if_false];rw[show i-min (o+1) cs.length=i-min o cs.length-1 by omega]
    ·have a1: ¬i<min (o+1) cs.length+r.length:=by omega
     have a3: ¬i<min o cs.length+(r.length+1):=om;have a5: ¬(o=o+1+r.length+(i-(min (o+1) cs.length+r.length))):=om;simp only[a1,a3,a5,if_false];rw[show o+1+r.length+(i-(min (o+1) cs.length+r.length))=o+(r.length+1)+(i-(min o cs.length+(r.length+1))) by omega]
  rw[e1] at this;simpa using this
theorem ou {g:Nat}: ∀(vs:List Value) {S:List Nat} {w0 w:World} (o:Nat),Keep S w0 w→(g∈S∨w0.heap.size≤g)→Keep S w0 (w.setCells g o vs)
 |[],S,w0,w,o,k,h=>k
 |v::r,S,w0,w,o,k,h=>ou r (o+1) (k.setCell (p:=⟨g,o,none⟩) h v) h
theorem Row1.own {w:World} {B g:Nat} {e:TypeId} {cs:List Value} (h:Row1 w g e cs) (hB:B≤g) {n:Nat} (hn:n≤cs.length) (hm:cs.length≤maxLen):w.ownsRow B e 1 (.slice (some ⟨g,0,none⟩) n cs.length) n (cs.take n):=by
 obtain⟨cur,h1,rfl⟩:=h;refine⟨by rw[bD];omega,.inr ⟨g,_,cur,rfl,hB,h1,hn,hm,sI,sI⟩⟩
theorem Au {w:World} {B g n cap:Nat} {e:TypeId} {us:List Value} (h:w.ownsRow B e 1 (.slice (some ⟨g,0,none⟩) n cap) n us): ∃rest,Row1 w g e (us++rest)∧(us++rest).length=cap∧us.length=n∧n≤cap∧cap≤maxLen∧B≤g:=by
 obtain⟨hl,h⟩:=h;rcases h with⟨h,_⟩|⟨g',cap',cur,h,hB,h1,h2,h3,h4,h5⟩
 ·cases h
 ·injection h with e1 e2 e3
  injection e1 with e1;injection e1 with e1;subst e1 e3;simp only[Nat.mul_one] at*
  refine⟨cur.toList.drop n,⟨cur,h1,by rw[←h5,bX]⟩,?_,hl,h2,h3,hB⟩;rw[←h5,bX];simpa using h4
