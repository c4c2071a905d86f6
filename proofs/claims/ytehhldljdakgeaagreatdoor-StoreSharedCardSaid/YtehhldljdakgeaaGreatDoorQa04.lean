/- Lemmas and contracts for the claim's last text: Base, Code. -/
import Derived.Test.YtehhldljdakgeaaGreatDoorQa01
import Derived.Test.YtehhldljdakgeaaGreatDoorQa03
set_option linter.unusedSimpArgs false
set_option linter.unusedVariables false
set_option maxHeartbeats 16000000
set_option maxRecDepth 100000
namespace Go.Proofs.YtehhldljdakgeaaGreatDoor
open Go.RowKit Go.Maps
attribute [local go_sem ↓] aJ aK
theorem jK {n:Nat} {a b:World} (h:Below n a b:=by repeat(first|exact aO _ _|refine Below.drew ?_|refine below_drewN ?_ _|refine fU ?_ (iF aM (by first|omega|(simp;omega)|(simp;done)))|refine iK ?_ (by first|omega|(simp;omega)|(simp;done)) _|refine gV ?_ (by first|omega|(simp;omega)|(simp;done)) _)):Below n a b:=h
def jW (ev:Nat→Addr):Nat→Value
 |0=>.nilIface
 |i+1=>.iface 336 (.pointer (some (ev (i+1))))
def errG:Nat→Nat
 |1=>9
 |2=>1
 |3=>0
 |4=>2
 |5=>4
 |6=>6
 |7=>3
 |8=>8
 |9=>5
 |_=>7
structure yT (B:Nat) (ev:Nat→Addr) (w:World):Prop where
 size:B≤w.heap.size
 l2:1<B
 l3:0<B
 l4:2<B
 c2:w.cell? ⟨1,0,Option.none⟩=some (jW ev 2)
 c3:w.cell? ⟨0,0,Option.none⟩=some (jW ev 3)
 c4:w.cell? ⟨2,0,Option.none⟩=some (jW ev 4)
theorem yT.below {B:Nat} {ev:Nat→Addr} {w w':World} (h:yT B ev w) (hb:Below B w w'):yT B ev w':=
 ⟨bW h.size hb.size,h.l2,h.l3,h.l4,
  by rw[hb.cell (p:=⟨1,0,Option.none⟩) h.l2];exact h.c2,
  by rw[hb.cell (p:=⟨0,0,Option.none⟩) h.l3];exact h.c3,
  by rw[hb.cell (p:=⟨2,0,Option.none⟩) h.l4];exact h.c4⟩
theorem yT.z2 {B:Nat} {ev:Nat→Addr} {w:World} (h:yT B ev w):1<w.heap.size:=aC h.l2 h.size
theorem yT.z3 {B:Nat} {ev:Nat→Addr} {w:World} (h:yT B ev w):0<w.heap.size:=aC h.l3 h.size
structure SE (B:Nat) (ev:Nat→Addr) (w:World):Prop where
 c:yT B ev w
 l5:4<B
 c5:w.cell? ⟨4,0,Option.none⟩=some (jW ev 5)
theorem SE.below {B:Nat} {ev:Nat→Addr} {w w':World} (h:SE B ev w) (hb:Below B w w'):SE B ev w':=
 ⟨h.c.below hb,h.l5,by rw[hb.cell (p:=⟨4,0,Option.none⟩) h.l5];exact h.c5⟩
theorem SE.z5 {B:Nat} {ev:Nat→Addr} {w:World} (h:SE B ev w):4<w.heap.size:=aC h.l5 h.c.size
theorem SE.size {B:Nat} {ev:Nat→Addr} {w:World} (h:SE B ev w):B≤w.heap.size:=h.c.size
structure pY (B:Nat) (ev:Nat→Addr) (w:World):Prop where
 size:B≤w.heap.size
 glob: ∀i,1≤i→i≤10→errG i<B
 cell: ∀i,1≤i→i≤10→w.cell? ⟨errG i,0,Option.none⟩=some (jW ev i)
 inj: ∀i j,1≤i→i≤10→1≤j→j≤10→ev i=ev j→i=j
 row: ∀i,1≤i→i≤10→∃c t,w.heap[(ev i).block]?=some (.cells c t (0,0))
 lt: ∀i,1≤i→i≤10→(ev i).block<B
 globT:10<B
 typ:w.cell? ⟨10,0,Option.none⟩=some (.iface 254 (.agg #[.pointer (some ⟨11,30,Option.none⟩)]))
theorem pY.below {B:Nat} {ev:Nat→Addr} {w w':World} (h:pY B ev w) (hb:Below B w w'):pY B ev w':=
 ⟨bW h.size hb.size,h.glob,fun i a b=>by rw[hb.cell (p:=⟨errG i,0,Option.none⟩) (h.glob i a b)];exact h.cell i a b,h.inj,
  fun i a b=>by rw[hb.block _ (h.lt i a b)];exact h.row i a b,h.lt,h.globT,
  by rw[hb.cell (p:=⟨10,0,Option.none⟩) h.globT];exact h.typ⟩
theorem pY.c {B:Nat} {ev:Nat→Addr} {w:World} (h:pY B ev w):yT B ev w:=
 ⟨h.size,h.glob 2 (by decide) (by decide),h.glob 3 (by decide) (by decide),h.glob 4 (by decide) (by decide),h.cell 2 (by decide) (by decide),h.cell 3 (by decide) (by decide),h.cell 4 (by decide) (by decide)⟩
theorem pY.d {B:Nat} {ev:Nat→Addr} {w:World} (h:pY B ev w):SE B ev w:=⟨h.c,h.glob 5 (by decide) (by decide),h.cell 5 (by decide) (by decide)⟩
theorem xW {W w1:World} {n:Nat} (hb:Below n W w1):(∀b o,b<n→w1.cell? ⟨b,o,Option.none⟩=W.cell? ⟨b,o,Option.none⟩)∧(∀b o,b<n→w1.frozen? ⟨b,o,Option.none⟩=W.frozen? ⟨b,o,Option.none⟩):=
 ⟨fun b o h=>hb.cell (p:=⟨b,o,Option.none⟩) h,fun b o h=>hb.frozen (p:=⟨b,o,Option.none⟩) h⟩
theorem EW (k:Int) (w:World):Calls Tryz.prog 188 #[.int .i64 k] w fun e w'=>e= .returned (.bool (decide (0≤k∧k≤6)))∧w=w':=by
 by_cases h0:0≤k
 ·by_cases h6:k≤6
  ·have hd:decide (0≤k∧k≤6)=true:=decide_eq_true ⟨h0,h6⟩
   rw[hd];go_enter Tryz.func188,Tryz.ntmps188;go_wp2;go_ret;exact⟨rfl,rfl⟩
  ·have hd:decide (0≤k∧k≤6)=false:=decide_eq_false om
   rw[hd];go_enter Tryz.func188,Tryz.ntmps188;go_wp2;go_ret;exact⟨sI,rfl⟩
 ·have hd:decide (0≤k∧k≤6)=false:=decide_eq_false om
  rw[hd];go_enter Tryz.func188,Tryz.ntmps188;go_wp2;go_ret;exact⟨rfl,rfl⟩
theorem EX (k:Int) (w:World) (h:0≤k∧k≤6):Calls Tryz.prog 188 #[.int .i64 k] w fun e w'=>e= .returned (.bool true)∧w=w':=by
 have:=EW k w;rwa [decide_eq_true h] at this
theorem Nr (k:Int) (w:World) (h:k<0∨6<k):Calls Tryz.prog 188 #[.int .i64 k] w fun e w'=>e= .returned (.bool false)∧w=w':=by
 have:=EW k w;rwa [decide_eq_false (show¬(0≤k∧k≤6) by omega)] at this
theorem Dx (k:Int) (w:World) (h:0≤k∧k≤6):Calls Tryz.prog 160 #[.int .i64 k] w fun e w'=>e= .returned (.tuple #[.int .i64 (sz k),.nilIface])∧w=w':=by
 have hs:=wm h.1 h.2;obtain⟨h0,h6⟩:=h;go_enter Tryz.func160,Tryz.ntmps160;go_wp2_with (go_at_call 188;refine(EX _ _ ⟨h0,h6⟩).mono ?_;rintro e w' ⟨rfl,rfl⟩);go_ret2
 exact⟨by rw[←hs];rfl,rfl⟩
theorem size_no {B:Nat} {ev:Nat→Addr} (k:Int) (w:World) (hE:yT B ev w) (h:k<0∨6<k):
 Calls Tryz.prog 160 #[.int .i64 k] w fun e w'=>e= .returned (.tuple #[.int .i64 0,jW ev 2])∧Below w.heap.size w w':=by
 have hc:=hE.c2;go_enter Tryz.func160,Tryz.ntmps160;go_wp2_with (go_at_call 188;refine(Nr _ _ h).mono ?_;rintro e w' ⟨rfl,rfl⟩);go_region
 all_goals go_wp2
 all_goals go_ret2
 all_goals exact⟨rfl,jK⟩
theorem look_any {B:Nat} {ev:Nat→Addr} (a k:Int) (w:World) (hE:yT B ev w):
 Calls Tryz.prog 205 #[.agg #[.int .i64 a,.int .i64 k]] w fun e w'=>e= .returned (jW ev (qy a k))∧Below w.heap.size w w':=by
 have hc:=hE.c2;have hc':=hE.c3;have hz:=hE.z2;have hz':=hE.z3;rcases yt a k with⟨hr,h⟩|⟨⟨h0,h1,k0,k6⟩,h⟩
 ·rw[hr]
  clear hr;by_cases ha:a<0
  ·go_enter Tryz.func205,Tryz.ntmps205
   go_wp2_with fail;go_ret;exact⟨rfl,jK⟩
  ·by_cases ha2:256≤a
   ·go_enter Tryz.func205,Tryz.ntmps205
    go_wp2_with fail;go_ret;exact⟨rfl,jK⟩
   ·have hk:k<0∨6<k:=by omega
    clear h;go_enter Tryz.func205,Tryz.ntmps205;go_wp2_with (go_at_call 188;refine(Nr _ _ hk).mono ?_;rintro e w' ⟨rfl,rfl⟩);go_ret;exact⟨rfl,jK⟩
 ·have hs:=wm k0 k6
  have hn:=and_sz h0 om k0 k6;obtain⟨s1,s2⟩:=vZ k0 k6;have H:Hid _:=ah h;clear h;go_enter Tryz.func205,Tryz.ntmps205;go_wp2_with (go_at_call 188;refine(EX _ _ ⟨k0,k6⟩).mono ?_;rintro e w' ⟨rfl,rfl⟩);go_quiet (fail);go_wp2
  ·have hne:(a % sz k !=0)=true:=by assumption
   rcases H.out with⟨e1,e2⟩|⟨e1,e2⟩
   ·go_ret
    exact⟨by rw[e1];rfl,jK⟩
   ·simp[e2] at hne
  ·have hne:(a % sz k !=0)=false:=by assumption
   rcases H.out with⟨e1,e2⟩|⟨e1,e2⟩
   ·simp[e2] at hne
   ·go_ret
    exact⟨by rw[e1];rfl,jK⟩
theorem look_ok {B:Nat} {ev:Nat→Addr} (a k:Int) (w:World) (hE:yT B ev w) (h:qy a k=0):
 Calls Tryz.prog 205 #[.agg #[.int .i64 a,.int .i64 k]] w fun e w'=>e= .returned .nilIface∧Below w.heap.size w w':=
 (look_any a k w hE).mono fun _ _ ⟨h1,h2⟩=>⟨by rw[h1,h];rfl,h2⟩
theorem SG {B:Nat} {ev:Nat→Addr} (a k:Int) (w:World) (hE:yT B ev w) (h:Qn a k=0):
 Calls Tryz.prog 194 #[.agg #[.int .i64 a,.int .i64 k]] w fun e w'=>e= .returned (.tuple #[.agg #[.int .i64 a,.int .i64 (k-1)],.agg #[.int .i64 (a+sz (k-1)),.int .i64 (k-1)],.nilIface])∧Below w.heap.size w w':=by
 obtain⟨ha,hk⟩:=Ch h;obtain⟨a0,a1,k0,k6,_⟩:=H8 ha;have hB:=hE.size;have k1:1≤k:=om;have hs:wrap64 (2 ^ (k.toNat-1))=sz (k-1):=by
  have e:(k-1).toNat=k.toNat-1:=om;rw[←e];exact wm (k:=k-1) om om
 obtain⟨s1,s2⟩:=vZ (k:=k-1) om om;go_enter Tryz.func194,Tryz.ntmps194;go_wp2_with fail;refine(look_ok a k _ (hE.below jK) ha).mono ?_;rintro e w1 ⟨rfl,hb⟩;obtain⟨hc,hf⟩:=xW hb;have hz:=hb.size;simp at hz hc hf;have z0:w.heap.size<w1.heap.size:=om;have z1:w.heap.size+1<w1.heap.size:=om;go_wp2;go_region
 go_wp2;exact bodyPost_ret (v:=.tuple #[.agg #[.int .i64 a,.int .i64 (k-1)],.agg #[.int .i64 (a+sz (k-1)),.int .i64 (k-1)],.nilIface]) (by simp[results,Tryz.results194,go_sem,hc,z0,z1]) rfl ⟨rfl,jK⟩
theorem zN (k:Int) (w:World):Calls Tryz.prog 140 #[.int .i64 k] w fun e w'=>e= .returned (.bool (decide (0≤k∧k≤6)))∧w=w':=by
 by_cases h0:0≤k
 ·by_cases h6:k≤6
  ·rw[decide_eq_true (show 0≤k∧k≤6 from⟨h0,h6⟩)]
   go_enter Tryz.func140,Tryz.ntmps140;go_wp2;go_ret;exact⟨rfl,rfl⟩
  ·rw[decide_eq_false (show¬(0≤k∧k≤6) by omega)]
   go_enter Tryz.func140,Tryz.ntmps140;go_wp2;go_ret;exact⟨sI,rfl⟩
 ·rw[decide_eq_false (show¬(0≤k∧k≤6) by omega)]
  go_enter Tryz.func140,Tryz.ntmps140;go_wp2;go_ret;exact⟨rfl,rfl⟩
theorem He (k:Int) (w:World) (h:0≤k∧k≤6):Calls Tryz.prog 140 #[.int .i64 k] w fun e w'=>e= .returned (.bool true)∧w=w':=by
 have:=zN k w;rwa [decide_eq_true h] at this
theorem qB (k:Int) (w:World) (k0:0≤k) (k7:k≤7):Calls Tryz.prog 153 #[.int .i64 k] w fun e w'=>e= .returned (.int .i64 (sz k))∧w=w':=by
 go_enter Tryz.func153,Tryz.ntmps153;go_wp2;go_loop [3,4] (fun n i=>∃j:Nat,(j:Int)≤k∧i= .int .i64 j∧n= .int .i64 (sz j)) (fun _ i=>k.toNat-(intOf i).toNat)
 case atStart=>exact⟨0,om,rfl,rfl⟩
 case round=>
  obtain⟨j,hj,rfl,rfl⟩:=hrel;obtain⟨s1,s2⟩:=Sr (k:=(j:Int)) om om;by_cases hlt:(j:Int)<k
  ·have hs:=wh (k:=(j:Int)) om om
   have HS:=ah hs;clear hs;go_wp2;go_round
   case rel=>exact⟨j+1,om,by go_num,by rw[show((j+1:Nat):Int)=(j:Int)+1 from om,HS.out]⟩
   case measure=>simp[intOf];omega
  ·have e:(j:Int)=k:=by omega
   have E:=ah e;clear e;go_wp2;go_ret;exact⟨by rw[←E.out];rfl,rfl⟩
theorem Hf (a k:Int) (w:World) (a0:0≤a) (a1:a≤255) (k0:0≤k) (k5:k≤5) (ha:a % sz k=0):
 Calls Tryz.prog 197 #[.agg #[.int .i64 a,.int .i64 k]] w fun e w'=>e= .returned (.agg #[.int .i64 (xV a k),.int .i64 (k+1)])∧Below w.heap.size w w':=by
 obtain⟨p0,p1⟩:=kin_p a0 a1 k0 k5 ha;have hm:wrap64 (a / sz (k+1)*sz (k+1))=xV a k:=by
  rw[kin_q a0 a1 k0 k5 ha];exact IntWalk.wrap64_in _ ⟨om,om⟩
 obtain⟨s1,s2⟩:=Sr (k:=k+1) om om;clear ha;generalize xV a k=p at*
 generalize hq:sz (k+1)=s at*
 have HQ:=ah hq;clear hq;go_enter Tryz.func197,Tryz.ntmps197;go_wp2_with (go_at_call 153;refine(qB _ _ om om).mono ?_;rintro e w' ⟨rfl,rfl⟩;rw[HQ.out]);go_region
 go_wp2;exact bodyPost_ret (v:=.agg #[.int .i64 p,.int .i64 (k+1)]) (by simp[results,Tryz.results197,go_sem]) rfl ⟨rfl,jK⟩
theorem Qp (a k:Int) (w:World) (a0:0≤a) (a1:a≤255) (k0:0≤k) (k5:k≤5) (ha:a % sz k=0):
 Calls Tryz.prog 171 #[.agg #[.int .i64 a,.int .i64 k]] w fun e w'=>e= .returned (.agg #[.int .i64 (Bu a k),.int .i64 k])∧Below w.heap.size w w':=by
 obtain⟨p0,p1⟩:=kin_p a0 a1 k0 k5 ha;have hb:=kin_b a0 a1 k0 k5 ha;obtain⟨s1,s2⟩:=vZ k0 (by omega:k≤6);have hP:=Hf a k;generalize xV a k=p at*
 generalize Bu a k=x at*
 rcases hb with⟨rfl,rfl⟩|⟨hpa,rfl⟩
 ·go_enter Tryz.func171,Tryz.ntmps171
  go_wp2_with fail;refine(hP _ a0 a1 k0 k5 ha).mono ?_;rintro e w1 ⟨rfl,hb1⟩;obtain⟨c1,f1⟩:=xW hb1;have z1:=hb1.size;try simp at z1 c1 f1
  have l0:w.heap.size<w1.heap.size:=om;have l1:w.heap.size+1<w1.heap.size:=om;clear hP;go_wp2;have hw:IntKind.i64.wrap (p+sz k)=p+sz k:=bB _ om;go_region_with ((go_at_call 153;refine(qB _ _ k0 om).mono ?_;rintro e w' ⟨rfl,rfl⟩))
  all_goals go_wp2
  all_goals exact bodyPost_ret (v:=.agg #[.int .i64 (p+sz k),.int .i64 k]) (by simp[results,Tryz.results171,go_sem,c1,l0,l1,hw]) rfl ⟨rfl,jK⟩
 ·have hne:(x==a)=false:=by simpa using hpa
  clear hpa;go_enter Tryz.func171,Tryz.ntmps171;go_wp2_with fail;refine(hP _ a0 a1 k0 k5 ha).mono ?_;rintro e w1 ⟨rfl,hb1⟩;obtain⟨c1,f1⟩:=xW hb1;have z1:=hb1.size;try simp at z1 c1 f1
  have l0:w.heap.size<w1.heap.size:=om;have l1:w.heap.size+1<w1.heap.size:=om;clear hP;go_wp2;exact bodyPost_ret (v:=.agg #[.int .i64 x,.int .i64 k]) (by simp[results,Tryz.results171,go_sem,c1,l0,l1]) rfl ⟨rfl,jK⟩
structure Keep (S:List Nat) (w w':World):Prop where
 os:w'.os=w.os
 tape:w'.tape=w.tape
 output:w'.output=w.output
 size:w.heap.size≤w'.heap.size
 block: ∀k,k<w.heap.size→k∉S→w'.heap[k]?=w.heap[k]?
theorem Keep.refl (S:List Nat) (w:World):Keep S w w:=⟨rfl,rfl,rfl,aH _,fun _ _ _=>rfl⟩
theorem Keep.of {S:List Nat} {w w':World} (h:Below w.heap.size w w'):Keep S w w':=⟨h.os,h.tape,h.output,h.size,fun k hk _=>h.block k hk⟩
theorem Keep.trans {S S':List Nat} {a b c:World} (h:Keep S a b) (k:Keep S' b c) (hs: ∀s∈S',s∈S∨a.heap.size≤s):Keep S a c:=
 ⟨k.os.trans h.os,k.tape.trans h.tape,k.output.trans h.output,bW h.size k.size,fun i hi hn=>
   (k.block i (aC hi h.size) (fun hm=>by rcases hs i hm with q|q;(·exact hn q);(·omega))).trans (h.block i hi hn)⟩
theorem Keep.then {S:List Nat} {a b c:World} (h:Keep S a b) (k:Keep S b c):Keep S a c:=h.trans k fun _ q=>.inl q
theorem Keep.mono {S S':List Nat} {w w':World} (h:Keep S w w') (hs: ∀s∈S,s∈S'):Keep S' w w':=⟨h.os,h.tape,h.output,h.size,fun k hk hn=>h.block k hk fun q=>hn (hs k q)⟩
theorem Keep.below {S:List Nat} {B:Nat} {w w':World} (h:Keep S w w') (hB:B≤w.heap.size) (hs: ∀s∈S,B≤s):Below B w w':=
 ⟨h.os,h.tape,h.output,h.size,fun k hk=>h.block k om fun q=>by have:=hs k q;omega⟩
theorem Keep.qU {w w':World} (h:Keep [] w w'):Below w.heap.size w w':=h.below (aH _) (fun _ q=>by cases q)
theorem Keep.after {S:List Nat} {B:Nat} {w0 w w':World} (h:Below B w0 w) (k:Keep S w w') (hB:B≤w.heap.size) (hs: ∀s∈S,B≤s):Below B w0 w':=h.trans (k.below hB hs)
theorem Keep.step {S:List Nat} {a b c:World} (h:Keep S a b) (k:Below b.heap.size b c):Keep S a c:=h.trans (S':=[]) (Keep.of k) (fun _ q=>by cases q)
theorem Keep.low {S:List Nat} {a b c:World} {n:Nat} (h:Keep S a b) (k:Below n b c) (hn:a.heap.size≤n):Keep S a c:=
 ⟨k.os.trans h.os,k.tape.trans h.tape,k.output.trans h.output,bW h.size k.size,fun i hi hq=>(k.block i om).trans (h.block i hi hq)⟩
theorem Keep.grown {S:List Nat} {a b c:World} {r:Nat} (h:Keep S a b) (k:b.grownBy c (some r)) (hr:r∈S∨a.heap.size≤r):Keep S a c:=
 h.trans (S':=[r]) ⟨k.os,k.tape,k.output,k.size,fun i hi hn=>k.block i hi (by simp at hn ⊢;exact hn)⟩ fun s q=>by simp at q;subst q;exact hr
theorem Keep.alloc {S:List Nat} {a b:World} (h:Keep S a b) (o:Obj):Keep S a (b.alloc o):=
 h.step ((aO _ _).alloc (aH _) o)
theorem Keep.drew {S:List Nat} {a b:World} (h:Keep S a b):Keep S a b.drew:=h.step (aO _ _).drew
theorem Keep.drewN {S:List Nat} {a b:World} (h:Keep S a b) (n:Nat):Keep S a (b.drewN n):=h.step (below_drewN (aO _ _) _)
theorem Keep.setCell {S:List Nat} {a b:World} (h:Keep S a b) {p:Addr} (hp:p.block∈S∨a.heap.size≤p.block) (u:Value):Keep S a (b.setCell p u):=
 ⟨h.os,h.tape,h.output,by simpa[World.setCell] using h.size,fun i hi hq=>(Below.heap_setCell _ _ _ _ (by rcases hp with q|q;(·exact fun e=>hq (e▸q));(·omega))).trans (h.block i hi hq)⟩
theorem kep {S:List Nat} {a b c:World} (h:Keep S a b) (g:Keep S a b→Keep S a c:=by intro h;repeat(first|exact h|refine Keep.alloc ?_ _|refine Keep.drew ?_|refine Keep.drewN ?_ _|refine Keep.setCell ?_ (.inr (by first|omega|(simp;omega)|(simp;done))) _)):Keep S a c:=g h
theorem Keep.cell {S:List Nat} {w w':World} (h:Keep S w w') {b o:Nat} (hb:b<w.heap.size) (hn:b∉S):w'.cell? ⟨b,o,none⟩=w.cell? ⟨b,o,none⟩:=dL (w:=w) (h.block b hb hn)
theorem Keep.frozen {S:List Nat} {w w':World} (h:Keep S w w') {b o:Nat} (hb:b<w.heap.size) (hn:b∉S):w'.frozen? ⟨b,o,none⟩=w.frozen? ⟨b,o,none⟩:=World.frozen?_of_block (w:=w) (h.block b hb hn)
structure Behind (w:World) where
 w':World
 h:Below w.heap.size w w'
instance behindNonempty (w:World):Nonempty (Behind w):=⟨⟨w,aO _ _⟩⟩
theorem kS {w w':World} (h: ∃p:Behind w,w'=p.w'):Below w.heap.size w w':=by
 obtain⟨p,hp⟩:=h;rw[hp];exact p.h
theorem jL {P:Program} {id:Nat} {Q:Exit→Act→World→Prop} {a:Act} {w:World} {l:List Oper} (hm:P.follows .mixedOrders=true) (hB:Region.lexB .any l.toArray=true)
 (h:wpQuiet P l.toArray (fun w'=>∃p:Behind w,w'=p.w') (fun a'=>∀w',(∃p:Behind w,w'=p.w')→Q .normal a' w') l a):(Code.region id l.toArray true).wp P Q a w:=
 wp_region_quiet (C:=fun w'=>∃p:Behind w,w'=p.w') hm hB ⟨⟨w.drew,(aO _ _).drew⟩,rfl⟩ (by simpa using h)
@[go_sem] theorem Behind.cell {w:World} (p:Behind w) (b o:Nat) (h:b<w.heap.size):p.w'.cell? ⟨b,o,none⟩=w.cell? ⟨b,o,none⟩:=p.h.cell (p:=⟨b,o,none⟩) h
@[go_sem] theorem Behind.frozen {w:World} (p:Behind w) (b o:Nat) (h:b<w.heap.size):p.w'.frozen? ⟨b,o,none⟩=w.frozen? ⟨b,o,none⟩:=p.h.frozen (p:=⟨b,o,none⟩) h
theorem _root_.Go.Calls.behind {P:Program} {f:FuncId} {args:Array Value} {w:World} {p:Behind w} {v:Value}
 (h:Calls P f args p.w' fun e w'=>e= .returned v∧Below p.w'.heap.size p.w' w'):Calls P f args p.w' fun e w''=>e= .returned v∧∃q:Behind w,w''=q.w':=
 h.mono fun _ w'' ⟨he,hb⟩=>⟨he,⟨w'',p.h.trans (hb.mono p.h.size)⟩,rfl⟩
theorem kX {P:Program} {id:Nat} {Q:Exit→Act→World→Prop} {a:Act} {w:World} {l:List Oper} (n:Nat) (hm:P.follows .mixedOrders=true) (hB:Region.lexTailB .any l.toArray n=true)
 (h:wpStill P l.toArray w.drew (fun a'=>wpList P l.toArray Q (l.drop n) a' w.drew) (l.take n) a):(Code.region id l.toArray true).wp P Q a w:=
 wp_region_still_tail n hm hB h
def kG (l:List (Int×Int)):List Value:=l.flatMap fun b=>[.int .i64 b.1,.int .i64 b.2]
theorem l8 (l:List (Int×Int)) (b:Int×Int):kG (l++[b])=kG l++[.int .i64 b.1,.int .i64 b.2]:=by simp[kG]
theorem kV (l:List (Int×Int)):(kG l).length=2*l.length:=by
 induction l with
 |nil=>rfl
 |cons b r ih=>simp[kG] at ih ⊢;omega
theorem infoB:(Tryz.prog.info? 213).map (fun i=>(i.zero,i.size,i.bytes))=some (some (.agg #[.int .i64 0,.int .i64 0]),2,16):=kR
theorem nJ (w:World) (u0 u1:Value) (t:TypeId): ∀j u,[u0,u1][j]?=some u→(w.alloc (.cells #[u0,u1] t)).cell? ((⟨w.heap.size,0,none⟩:Addr).add j)=some u:=by
 intro j u hu;match j,hu with
 |0,hu=>simp at hu;subst hu;simp[Addr.add]
 |1,hu=>simp at hu;subst hu;simp[Addr.add]
theorem nK (a k:Int): ∀u∈[Value.int .i64 a,Value.int .i64 k],u.oneCell'=true:=by
 intro u hu;simp at hu;rcases hu with rfl|rfl<;>rfl
def Ns (w w':World) (v:Value) (l:List (Int×Int)):Prop:=w'.ownsRow w.heap.size 213 2 v l.length (kG l)∧Below w.heap.size w w'
def SI (w:World) (l:List (Int×Int)) (x:Value) (e:Ending) (w':World):Prop:=∃v,e= .returned (.tuple #[v,x])∧Ns w w' v l
theorem cover_ok (a n:Int) (w:World) (a0:0≤a) (n0:0≤n) (h:a+n≤256):
 Calls Tryz.prog 120 #[.int .i64 a,.int .i64 n] w (SI w (uH a n) .nilIface):=by
 obtain⟨i0,hi,hz0,hz1,hz2⟩:=info_parts infoB;have hlen:=wu n.toNat a n (aH _);have d1:decide (a<0)=false:=decide_eq_false om;have d2:decide (n<0)=false:=decide_eq_false om;have d3:decide (256<a)=false:=decide_eq_false om;have d4:decide (256-a<n)=false:=decide_eq_false om;go_enter Tryz.func120,Tryz.ntmps120;go_wp2_with fail;clear d1 d2 d3 d4;go_loopw [0,1,6] (fun xa xn v wr=>∃(x m:Int) (done:List (Int×Int)),xa= .int .i64 x∧xn= .int .i64 m∧0≤x∧0≤m∧x+m≤256∧uH a n=done++uH x m∧wr.ownsRow w.heap.size 213 2 v done.length (kG done)∧Below w.heap.size w wr) (fun _ xn _ _=>(intOf xn).toNat);case atStart=>exact⟨a,n,[],rfl,rfl,a0,n0,h,rfl,aT _ _ _ _,aO _ _⟩
 case round=>
  obtain⟨x,m,done,rfl,rfl,x0,m0,hxm,Qq,hown,hbel⟩:=hrel;have hdl:(done.length:Int)≤n.toNat:=by rw[Qq] at hlen;simp at hlen;omega
  by_cases hm:m<1
  ·have e:m=0:=by omega
   subst e;rw[qA (cO _),dB] at Qq;have HC:=ah Qq;clear Qq;go_wp2;go_ret2
   exact⟨_,rfl,by rw[HC.out];exact⟨hown,hbel⟩⟩
  ·have hst:=uL (a:=x) (n:=m) om
   obtain⟨k0,k6⟩:=uK x m;obtain⟨s1,s2⟩:=vZ k0 k6;obtain⟨f1,f2⟩:=zI (a:=x) (n:=m) om;have hmax:=fun j:Int=>Dr (a:=x) (n:=m) (k:=j)
   have hm1:1≤m:=om;clear hm;generalize vR x m=k at*
   have HST:=ah hst;have HMAX:=ah hmax;have F1:=ah f1;have HC:=ah Qq;clear hst hmax f1 Qq;go_wp2;go_loop [7] (fun kv=>∃j:Int,k≤j∧j≤6∧kv= .int .i64 j) (fun kv=>(intOf kv).toNat)
   case atStart=>exact⟨6,k6,om,rfl⟩
   case round=>
    obtain⟨j,hkj,hj6,rfl⟩:=hrel;have hs:=wm (k:=j) om hj6;have hn:=and_sz (a:=x) (k:=j) x0 om om hj6;obtain⟨t1,t2⟩:=vZ (k:=j) om hj6;by_cases hlt:k<j
    ·have hno:=HMAX.out j hj6 hlt
     by_cases hx:x % sz j=0
     ·have hbig:m<sz j:=by
       rcases Int.lt_or_le m (sz j) with h'|h'
       ·exact h'
       ·exact absurd ⟨hx,h'⟩ hno
      have hb:(x % sz j !=0)=false:=by simp[hx]
      clear hno hx;go_wp2;go_round
      case rel=>exact⟨j-1,om,om,rfl⟩
      case measure=>simp[intOf];omega
     ·have hb:(x % sz j !=0)=true:=by simp[hx]
      clear hno hx;go_wp2;go_round
      case rel=>exact⟨j-1,om,om,rfl⟩
      case measure=>simp[intOf];omega
    ·obtain rfl:j=k:=by omega
     have hb:(x % sz j !=0)=false:=by simp[F1.out]
     have hle:sz j≤m:=f2;go_wp2_with (first|(at_builtin;refine wpList_append_own _ rfl _ _ 235 rfl w.heap.size 213 i0 (.agg #[.int .i64 0,.int .i64 0]) 2 16 fV hi hz0 hz1 hz2 rfl (by decide) _ _ _ rfl (hown.alloc _) ⟨wr.heap.size,0,none⟩ 1 1 [.int .i64 x,.int .i64 j] rfl rfl (nJ _ _ _ _) (nK _ _) ?c3 ?c4 ?c5 ?_));case c3=>unfold maxLen;omega
     case c4=>omega
     case c5=>have:=hbel.size;simp;omega
     intro v' w1 hown' hgrow _;have Hg:Below w.heap.size w w1:=(hbel.alloc hbel.size _).grown hgrow (by have:=hbel.size;simp;omega) (fun r hr=>(hown.lt r hr).1);have OW:=ah hown';clear hown' hgrow hown hbel;go_wp2;go_quiet (fail);go_wp2;go_roundw;case rel=>
      refine⟨x+sz j,m-sz j,done++[(x,j)],rfl,rfl,om,om,om,?_,?_,?_⟩
      ·rw[HC.out,HST.out];simp
      ·rw[l8];exact(show w1.ownsRow _ _ _ _ _ _ by simpa using OW.out)
      ·exact below_drewN Hg _
     case measure=>simp[intOf];omega
def RowB (N:Nat) (w:World) (v:Value) (l:List (Int×Int)):Prop:=
 (v= .slice none 0 0∧l=[])∨∃g cap,v= .slice (some ⟨g,0,none⟩) l.length cap∧l.length≤maxLen∧g<N∧N≤w.heap.size∧
   ∀j a k,l[j]?=some (a,k)→w.cell? ⟨g,j*2,none⟩=some (.int .i64 a)∧w.cell? ⟨g,j*2+1,none⟩=some (.int .i64 k)
theorem u6: ∀(l:List (Int×Int)) (j:Nat) (a k:Int),l[j]?=some (a,k)→(kG l)[j*2]?=some (.int .i64 a)∧(kG l)[j*2+1]?=some (.int .i64 k)
 |[],j,a,k,h=>by simp at h
 |b::r,0,a,k,h=>by
  simp at h;subst h;simp[kG]
 |b::r,j+1,a,k,h=>by
  have ih:=u6 r j a k (by simpa using h);have e:kG (b::r)= .int .i64 b.1:: .int .i64 b.2::kG r:=by simp[kG]
  rw[e,show(j+1)*2=j*2+1+1 from om,show j*2+1+1+1=(j*2+1)+1+1 from rfl];simpa using ih
section
open Go.RowKit Go.Extern.Stop Go.Stop Go.Extern
theorem I9 (v:Value) (w:World):(Extern.ReflectliteType.typeOf #[.iface 336 v]).run Tryz.prog w= .ok (.iface 254 (.agg #[.pointer (some ⟨11,336,none⟩)])) w:=kR
theorem Ad (w:World):((Extern.ReflectliteType.method fun t=>do Rtype.noPackHeld "Comparable" t;(fun a=>Value.bool a.comparable)<$>typeInfo t) #[.agg #[.pointer (some ⟨11,336,none⟩)]]).run Tryz.prog w= .ok (.bool true) w:=kR
theorem tK (v:Value) (w:World):(Go.method 468 254 v "Comparable").run Tryz.prog w= .ok (238,v) w:=kR
theorem wComp:(Tryz.prog.info? 336).map (·.comparable)=some true:=kR
theorem wSize:(Tryz.prog.info? 356).map (·.size)=some 1:=kR
theorem wNoIs (v:Value) (xT:TypeId) (w:World):(Instr.typeAssert (.iface 336 v) xT 256 true).run Tryz.prog w= .ok (.tuple #[.nilIface,.bool false]) w:=run_typeAssert_lacksB Tryz.underlying256 kR kR v xT w
theorem wNoAs (v:Value) (xT:TypeId) (w:World):(Instr.typeAssert (.iface 336 v) xT 286 true).run Tryz.prog w= .ok (.tuple #[.nilIface,.bool false]) w:=run_typeAssert_lacksB Tryz.underlying286 kR kR v xT w
theorem Fq (v:Value) (xT:TypeId) (w:World):(Instr.typeAssert (.iface 336 v) xT 259 true).run Tryz.prog w= .ok (.tuple #[.nilIface,.bool false]) w:=run_typeAssert_lacksB Tryz.underlying259 kR kR v xT w
theorem CJ (v:Value) (xT:TypeId) (w:World):(Instr.typeAssert (.iface 336 v) xT 260 true).run Tryz.prog w= .ok (.tuple #[.nilIface,.bool false]) w:=run_typeAssert_lacksB Tryz.underlying260 kR kR v xT w
theorem is_same (a:Addr) (w:World):
 Calls Tryz.prog 59 #[.iface 336 (.pointer (some a)),.iface 336 (.pointer (some a))] w fun e w'=>e= .returned (.bool true)∧w=w':=by
 obtain⟨i,hi,hcmp⟩:=dx.1 wComp;obtain⟨j,hj,hjs⟩:=dx.1 wSize;have h8:= @run_callFunc_extern Tryz.prog 107 _ Extern.ReflectliteType.typeOf Tryz.func107 kR kR kR kR;have h32:= @run_callFunc_extern Tryz.prog 238 _ (Extern.ReflectliteType.method fun t=>do Rtype.noPackHeld "Comparable" t;pure (.bool (←typeInfo t).comparable)) Tryz.func238 kR kR kR kR;have tT:=I9;have cT:=Ad;have mR:=tK;have heq:=run_eql_iface_ptr_same (P:=Tryz.prog) w a jd Tryz.underlying336 hi hcmp hj;go_enter Tryz.func59,Tryz.ntmps59;go_wp2;refine wp_loop_rounds 1 ?_;rw[rounds_succ];go_wp2;go_ret;exact⟨rfl,rfl⟩
theorem is_other (a b:Addr) (ca cb:Array Value) (ta tb:TypeId) (w:World) (hne:a≠b) (ha:w.heap[a.block]?=some (.cells ca ta (0,0))) (hb:w.heap[b.block]?=some (.cells cb tb (0,0))):
 Calls Tryz.prog 59 #[.iface 336 (.pointer (some a)),.iface 336 (.pointer (some b))] w fun e w'=>e= .returned (.bool false)∧w=w':=by
 obtain⟨i,hi,hcmp⟩:=dx.1 wComp;obtain⟨j,hj,hjs⟩:=dx.1 wSize;have h8:= @run_callFunc_extern Tryz.prog 107 _ Extern.ReflectliteType.typeOf Tryz.func107 kR kR kR kR;have h32:= @run_callFunc_extern Tryz.prog 238 _ (Extern.ReflectliteType.method fun t=>do Rtype.noPackHeld "Comparable" t;pure (.bool (←typeInfo t).comparable)) Tryz.func238 kR kR kR kR;have tT:=I9;have cT:=Ad;have mR:=tK;have nE:=wNoIs;have uE:=Fq;have vE:=CJ;have heq:=run_eql_iface_ptr_other (P:=Tryz.prog) w jd Tryz.underlying336 hi hcmp hj (by rw[hjs];decide) hne ha hb;go_enter Tryz.func59,Tryz.ntmps59;go_wp2;refine wp_loop_rounds 1 ?_;rw[rounds_succ];go_wp2;go_ret;exact⟨rfl,rfl⟩
theorem xValueOf (t:Addr) (w:World):(ReflectliteValue.unpack (.iface 196 (.pointer (some t)))).run Tryz.prog w
 = .ok (.agg #[.pointer (some ⟨11,196,none⟩),.pointer (some ⟨w.heap.size,0,none⟩),.int .u64 150]) (w.alloc (.cells #[.pointer (some t)] 196)):=kR
theorem xType (a:Addr) (w:World):(ReflectliteValue.methodAny (ReflectliteValue.valueError "reflectlite.Value.Type" 0) (fun t _ _ _=>ReflectliteType.toType t) #[.agg #[.pointer (some ⟨11,196,none⟩),.pointer (some a),.int .u64 150]]).run Tryz.prog w
 = .ok (.iface 254 (.agg #[.pointer (some ⟨11,196,none⟩)])) w:=kR
theorem Ia (h:Value) (w:World):(Go.method 468 254 (.agg #[h]) "Kind").run Tryz.prog w= .ok (224,h) w:=kR
theorem xKindPP (w:World):((ReflectliteType.abiMethod fun t=>(fun a:Nat=>Value.int IntKind.u8 (a:Int))<$>Rtype.kind t) #[.pointer (some ⟨11,196,none⟩)]).run Tryz.prog w= .ok (.int .u8 22) w:=kR
theorem xKindP (w:World):((ReflectliteType.abiMethod fun t=>(fun a:Nat=>Value.int IntKind.u8 (a:Int))<$>Rtype.kind t) #[.pointer (some ⟨11,194,none⟩)]).run Tryz.prog w= .ok (.int .u8 22) w:=kR
theorem xrlm (z:Sem Value) (f:TypeId→Addr→Nat→Nat→Sem Value) (v:Value):
 ReflectliteValue.method z f #[v]=(do match ←ReflectliteValue.parts v with|none=>z|some (t,a,fl)=>f t a fl (fl % 32)):=rfl
theorem xParts (a:Addr) (w:World):(ReflectliteValue.parts (.agg #[.pointer (some ⟨11,196,none⟩),.pointer (some a),.int .u64 150])).run Tryz.prog w= .ok (some (196,a,150)) w:=kR
theorem xIsNil (a p:Addr) (W:World) (ha:W.cell? a=some (.pointer (some p))):
 (ReflectliteValue.method (ReflectliteValue.valueError "reflectlite.Value.IsNil" 0) ReflectliteValue.isNil #[.agg #[.pointer (some ⟨11,196,none⟩),.pointer (some a),.int .u64 150]]).run Tryz.prog W= .ok (.bool false) W:=by
 rw[xrlm];simp only[fA,xParts,Result.andThen];simp[ReflectliteValue.isNil,loadVar,isAgg,underlying,Tryz.underlying196,ha,Result.andThen]
theorem Ib (h:Value) (w:World):(Go.method 468 254 (.agg #[h]) "Elem").run Tryz.prog w= .ok (239,.agg #[h]) w:=kR
theorem y8 (h:Value) (w:World):(Go.method 468 254 (.agg #[h]) "Implements").run Tryz.prog w= .ok (240,.agg #[h]) w:=kR
theorem wJ (h:Value) (w:World):(Go.method 468 254 (.agg #[h]) "AssignableTo").run Tryz.prog w= .ok (237,.agg #[h]) w:=kR
theorem xElem (w:World):(ReflectliteType.method ReflectliteType.elem #[.agg #[.pointer (some ⟨11,196,none⟩)]]).run Tryz.prog w= .ok (.iface 254 (.agg #[.pointer (some ⟨11,194,none⟩)])) w:=kR
theorem Ic (w:World):(ReflectliteType.relation "Implements" ReflectliteType.implements_ #[.agg #[.pointer (some ⟨11,194,none⟩)],.iface 254 (.agg #[.pointer (some ⟨11,30,none⟩)])]).run Tryz.prog w= .ok (.bool true) w:=kR
theorem TL (w:World):(ReflectliteType.relation "AssignableTo" ReflectliteType.assignableTo #[.agg #[.pointer (some ⟨11,336,none⟩)],.iface 254 (.agg #[.pointer (some ⟨11,194,none⟩)])]).run Tryz.prog w= .ok (.bool false) w:=kR
theorem as_miss {B:Nat} {ev:Nat→Addr} (e t:Addr) (w:World) (hE:pY B ev w):
 Calls Tryz.prog 96 #[.iface 336 (.pointer (some e)),.iface 196 (.pointer (some t))] w fun ev w'=>ev= .returned (.bool false)∧Below w.heap.size w w':=by
 have hg:=hE.typ;have hB:=hE.size;have hlt:10<w.heap.size:=aC hE.globT hE.size;have h6:= @run_callFunc_extern Tryz.prog 129 _ (fun args=>ReflectliteValue.unpack (args.getD 0 (.tuple #[]))) Tryz.func129 kR kR kR kR;have h7:= @run_callFunc_extern Tryz.prog 130 _ (ReflectliteValue.methodAny (ReflectliteValue.valueError "reflectlite.Value.Type" 0) (fun t _ _ _=>ReflectliteType.toType t)) Tryz.func130 kR kR kR kR;have h8:= @run_callFunc_extern Tryz.prog 131 _ (ReflectliteValue.method (ReflectliteValue.valueError "reflectlite.Value.IsNil" 0) ReflectliteValue.isNil) Tryz.func131 kR kR kR kR;have h27:= @run_callFunc_extern Tryz.prog 224 _ (ReflectliteType.abiMethod fun t=>do pure (.int .u8 (←Rtype.kind t))) Tryz.func224 kR kR kR kR;have h37:= @run_callFunc_extern Tryz.prog 239 _ (ReflectliteType.method ReflectliteType.elem) Tryz.func239 kR kR kR kR;have h38:= @run_callFunc_extern Tryz.prog 240 _ (ReflectliteType.relation "Implements" ReflectliteType.implements_) Tryz.func240 kR kR kR kR;have h10:= @run_callFunc_extern Tryz.prog 107 _ ReflectliteType.typeOf Tryz.func107 kR kR kR kR;have h35:= @run_callFunc_extern Tryz.prog 237 _ (ReflectliteType.relation "AssignableTo" ReflectliteType.assignableTo) Tryz.func237 kR kR kR kR;have tO:=I9;have mA:=wJ;have aN:=TL;have f6:=xValueOf;have f7:=xType;have mK:=Ia;have mE:=Ib;have mI:=y8;have k27:=xKindPP;have k25:=xKindP;have e27:=xElem;have i25:=Ic;have nA:=wNoAs;have nU:=Fq;have nV:=CJ;have n8:=xIsNil ⟨w.heap.size,0,none⟩ t ((w.alloc (.cells #[.pointer (some t)] 196)).alloc (.cells #[.pointer (some ⟨11,196,none⟩),.pointer (some ⟨w.heap.size,0,none⟩),.int .u64 150] 246)) sI
 have hg2:((w.alloc (.cells #[.pointer (some t)] 196)).alloc (.cells #[.pointer (some ⟨11,196,none⟩),.pointer (some ⟨w.heap.size,0,none⟩),.int .u64 150] 246)).cell? ⟨10,0,none⟩=some (.iface 254 (.agg #[.pointer (some ⟨11,30,none⟩)])):=by
  rw[World.cell?_alloc_lt _ _ ⟨10,0,none⟩ (by simp;omega),World.cell?_alloc_lt _ _ ⟨10,0,none⟩ hlt];exact hg
 go_enter Tryz.func96,Tryz.ntmps96;go_wp2;refine wp_loop_rounds 1 ?_;rw[rounds_succ];go_wp2;go_ret;exact⟨rfl,jK⟩
end
theorem code_nil (w:World):Calls Tryz.prog 52 #[.nilIface] w fun e w'=>e= .returned (.tuple #[.int .i64 0,.int .i64 (-1)])∧w=w':=by
 go_enter Tryz.func52,Tryz.ntmps52;go_wp2;go_ret2
 exact⟨rfl,rfl⟩
theorem uU {B:Nat} {ev:Nat→Addr} (i j:Nat) (w:World) (hE:pY B ev w) (i1:1≤i) (i2:i≤10) (j1:1≤j) (j2:j≤10):
 Calls Tryz.prog 59 #[.iface 336 (.pointer (some (ev i))),.iface 336 (.pointer (some (ev j)))] w fun e w'=>e= .returned (.bool (decide (i=j)))∧w=w':=by
 by_cases h:i=j
 ·subst h
  rw[decide_eq_true rfl];exact is_same _ w
 ·rw[decide_eq_false h]
  obtain⟨ca,ta,ha⟩:=hE.row i i1 i2;obtain⟨cb,tb,hb⟩:=hE.row j j1 j2;exact is_other _ _ ca cb ta tb w (fun e=>h (hE.inj i j i1 i2 j1 j2 e)) ha hb
theorem TM {B:Nat} {ev:Nat→Addr} (i:Nat) (w:World) (hE:pY B ev w) (i1:1≤i) (i2:i≤10):
 Calls Tryz.prog 52 #[.iface 336 (.pointer (some (ev i)))] w fun e w'=>e= .returned (.tuple #[.int .i64 i,.int .i64 (-1)])∧Below w.heap.size w w':=by
 have hB:=hE.size;go_enter Tryz.func52,Tryz.ntmps52;go_wp2_with fail;refine(as_miss _ _ _ (hE.below jK)).mono ?_;rintro e w1 ⟨rfl,hb1⟩;obtain⟨c1,f1⟩:=xW hb1;have z1:=hb1.size;try simp at z1 c1 f1
 have hE1:pY B ev w1:=hE.below jK;have g1:=hE1.cell 1 (by decide) (by decide);have g2:=hE1.cell 2 (by decide) (by decide);have g3:=hE1.cell 3 (by decide) (by decide);have g4:=hE1.cell 4 (by decide) (by decide);have g5:=hE1.cell 5 (by decide) (by decide);have g6:=hE1.cell 6 (by decide) (by decide);have g7:=hE1.cell 7 (by decide) (by decide);have g8:=hE1.cell 8 (by decide) (by decide);have g9:=hE1.cell 9 (by decide) (by decide);have g10:=hE1.cell 10 (by decide) (by decide);simp only[errG,jW] at g1 g2 g3 g4 g5 g6 g7 g8 g9 g10;clear c1 f1;have cells: ∀k,k<10→(w1.alloc (.cells #[.iface 336 (.pointer (some (ev 1))),.iface 336 (.pointer (some (ev 2))),.iface 336 (.pointer (some (ev 3))),.iface 336 (.pointer (some (ev 4))),.iface 336 (.pointer (some (ev 5))),.iface 336 (.pointer (some (ev 6))),.iface 336 (.pointer (some (ev 7))),.iface 336 (.pointer (some (ev 8))),.iface 336 (.pointer (some (ev 9))),.iface 336 (.pointer (some (ev 10)))] 30)).cell? ⟨w1.heap.size,k,none⟩=some (.iface 336 (.pointer (some (ev (k+1))))):=by
  intro k hk;rw[aZ _ _ _ _ rfl];match k,hk with
  |0,_=>rfl
  |1,_=>rfl
  |2,_=>rfl
  |3,_=>rfl
  |4,_=>rfl
  |5,_=>rfl
  |6,_=>rfl
  |7,_=>rfl
  |8,_=>rfl
  |9,_=>rfl
 have CC:=ah cells;clear cells;go_wp2;go_loop [3,28] (fun a s=>∃k:Nat,k<i∧s= .int .i64 k∧a= .int .i64 (-1)) (fun _ s=>i-(intOf s).toNat)
 case atStart=>exact⟨0,om,rfl,rfl⟩
 case round=>
  obtain⟨k,hk,rfl,rfl⟩:=hrel;have hck:=CC.out k om;have hki:(k:Int)<10:=om;by_cases hlt:k+1<i
  ·have hd:decide (i=k+1)=false:=decide_eq_false om
   have isK:=uU i (k+1) (w1.alloc (.cells #[.iface 336 (.pointer (some (ev 1))),.iface 336 (.pointer (some (ev 2))),.iface 336 (.pointer (some (ev 3))),.iface 336 (.pointer (some (ev 4))),.iface 336 (.pointer (some (ev 5))),.iface 336 (.pointer (some (ev 6))),.iface 336 (.pointer (some (ev 7))),.iface 336 (.pointer (some (ev 8))),.iface 336 (.pointer (some (ev 9))),.iface 336 (.pointer (some (ev 10)))] 30)) (hE1.below jK) i1 i2 om om;rw[hd] at isK;have IK:=ah isK;clear isK hd;go_wp2_with (go_at_call 59;refine IK.out.mono ?_;rintro e w' ⟨rfl,rfl⟩);go_round
   case rel=>exact⟨k+1,om,by go_num,rfl⟩
   case measure=>simp[intOf];omega
  ·have hd:decide (i=k+1)=true:=decide_eq_true om
   have isK:=uU i (k+1) (w1.alloc (.cells #[.iface 336 (.pointer (some (ev 1))),.iface 336 (.pointer (some (ev 2))),.iface 336 (.pointer (some (ev 3))),.iface 336 (.pointer (some (ev 4))),.iface 336 (.pointer (some (ev 5))),.iface 336 (.pointer (some (ev 6))),.iface 336 (.pointer (some (ev 7))),.iface 336 (.pointer (some (ev 8))),.iface 336 (.pointer (some (ev 9))),.iface 336 (.pointer (some (ev 10)))] 30)) (hE1.below jK) i1 i2 om om;rw[hd] at isK;have IK:=ah isK;clear isK hd;go_wp2_with (go_at_call 59;refine IK.out.mono ?_;rintro e w' ⟨rfl,rfl⟩);go_ret2
   have e1:i=k+1:=om;exact⟨by rw[show(i:Int)=(k:Int)+1 from om];rfl,jK⟩
theorem code_any {B:Nat} {ev:Nat→Addr} (i:Nat) (w:World) (hE:pY B ev w) (i2:i≤10):
 Calls Tryz.prog 52 #[jW ev i] w fun e w'=>e= .returned (.tuple #[.int .i64 i,.int .i64 (-1)])∧Below w.heap.size w w':=by
 rcases i with _|i
 ·exact(code_nil w).mono fun e w' ⟨h1,h2⟩=>⟨h1,by rw[←h2];exact aO _ _⟩
 ·exact TM (i+1) w hE om i2
theorem pY.go {B:Nat} {ev:Nat→Addr} {w w':World} (h:pY B ev w) (hb:Below w.heap.size w w'):pY B ev w':=h.below (hb.mono h.size)
end Go.Proofs.YtehhldljdakgeaaGreatDoor
