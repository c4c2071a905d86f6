/- Lemmas. -/
import Derived.Test.YtehhldljdakgeaaGreatDoorQb01
import Derived.Test.YtehhldljdakgeaaGreatDoorQb15
set_option linter.unusedSimpArgs false
set_option linter.unusedVariables false
set_option maxHeartbeats 16000000
set_option maxRecDepth 100000
namespace Go.Proofs.YtehhldljdakgeaaGreatDoor
open Go.RowKit Go.Maps Go.Proofs.Tryz
attribute [local go_sem ↓] aJ aK
section
variable {X Y S M:List Nat} {w w':World} {pc pm gN e:Nat} {mn lw hi:Int} {O:List (List Int)} {v v':Value} {A A':SA} {C:List Sl} {c:Ca} {L':List Nd}
theorem RC.ins (h:RC X w pc pm gN e mn lw hi O M v A c) {p:Nat×Nat} {s:Sl} {i:Nat} (hil:i≤c.C.length) (hs:RSl w p s) (hr:nO X w v' (lW (A.take i++p::A.drop i))) (hv:v'= .slice none 0 0∨∃g n k,v'= .slice (some ⟨g,0,none⟩) n k) (hw:w'=w.setCell ⟨pc,2,none⟩ v')
 (x1:p.1∈X) (x2:p.2∈X) (hne:p.1≠p.2) (n1:p.1∉rcs pc pm gN A M) (n2:p.2∉rcs pc pm gN A M):
 RC X w' pc pm gN e mn lw hi O M v' (A.take i++p::A.drop i) ⟨c.L,c.C.take i++s::c.C.drop i⟩:=by
 have kk:Keep [pc] w w':=by rw[hw];exact(Keep.refl _ _).setCell (p:=⟨pc,2,none⟩) (.inl sI) _
 have hpc:pc∈Ez pc A:=aG ..;obtain⟨m1,m2,m3⟩:=h.ne pc hpc;have pe:=BL A i p;have la:i≤A.length:=by rw[h.b.len];exact hil
 have mem: ∀y∈ay (A.take i++p::A.drop i),y=p.1∨y=p.2∨y∈ay A:=fun y hy=>by
  have:=pe.mem_iff.1 hy;simpa using this
 refine⟨h.z.keep kk (fun s q=>by simp at q;subst q;exact .inl ⟨h.b.mem _ hpc,m1,m2,m3⟩),h.b.put hw hr ?_ (fun j r t hp ht=> ?_) (fun y hy=> ?_) ?_ hv,fun y hy=> ?_⟩
 ·simp only[aW,dB,bD,bY,h.b.len]
 ·rw[yh la] at hp
  rw[yh hil] at ht;by_cases q1:j<i
  ·rw[if_pos q1] at hp ht
   exact h.b.sl _ _ _ hp ht
  ·rw[if_neg q1] at hp ht
   by_cases q2:j=i
   ·rw[if_pos q2] at hp ht
    obtain rfl:=aO hp;obtain rfl:=aO ht;exact hs
   ·rw[if_neg q2] at hp ht
    exact h.b.sl _ _ _ hp ht
 ·rcases mem y hy with rfl|rfl|q
  ·exact x1
  ·exact x2
  ·exact h.b.mem y (ak _ q)
 ·obtain⟨k0,k1⟩:=aS.1 h.b.nd
  refine aS.2 ⟨fun q=> ?_,pe.nodup_iff.2 (aS.2 ⟨fun q=> ?_,aS.2 ⟨fun q=>n2 (av _ (ak _ q)),k1⟩⟩)⟩
  ·rcases mem pc q with r|r|r
   ·exact n1 (r▸av _ hpc)
   ·exact n2 (r▸av _ hpc)
   ·exact k0 r
  ·rcases aB.1 q with r|r
   ·exact hne r
   ·exact n1 (av _ (ak _ r))
 ·have far: ∀z,z∉rcs pc pm gN A M→z≠pm∧z≠gN∧z∉M:=fun z hz=>⟨fun r=>hz (by subst r;exact aj _ (aG ..)),fun r=>hz (by subst r;exact aj _ (ak _ (aG ..))),fun r=>hz (aj _ (ak _ (ak _ r)))⟩
  rcases aB.1 hy with rfl|q
  ·exact⟨m1,m2,m3⟩
  ·rcases mem y q with rfl|rfl|q
   ·exact far _ n1
   ·exact far _ n2
   ·exact h.ne y (ak _ q)
def vM (X:List Nat) (pc pm gN e:Nat) (mn lw hi:Int) (O:List (List Int)) (M:List Nat) (A:SA) (w:World) (r:Ca×Nat×Ob) (en:Ending) (w':World):Prop:=
 en= .returned (.tuple #[obV r.2.2,.int .i64 r.2.1])∧∃X' M' v' A',RC X' w' pc pm gN e mn lw hi O M' v' A' r.1∧Keep (gN::Ez pc A) w w'∧(∀x∈X,x∈X')∧(∀x∈X',x∈X∨w.heap.size≤x)∧(∀x∈X',x<w'.heap.size)∧(∀m∈M',m∈M∨w.heap.size≤m)∧∀y∈ay A',y∈ay A∨w.heap.size≤y
structure RTkS (w wt:World) (pc pm gN e:Nat) (mn lw hi:Int) (O:List (List Int)) (X M:List Nat) (A:SA) (r:Ca×Nat×Ob) (Xt Mt:List Nat) (vt:Value) (At:SA) (ct:Ca) (m:Nat) (s:Sl) (p:Nat×Nat):Prop where
 rc:RC Xt wt pc pm gN e mn lw hi O Mt vt At ct
 hs:ct.C[m]?=some s
 hp:At[m]?=some p
 hm:oQ s.T<s.T.length
 hl:s.T.length≤64
 pg:0≤s.pg∧s.pg<256
 rr:r=(⟨ct.L,ct.C.set m (oH s (lG s.T) true)⟩,0,vK e s (lG s.T))
 kk:Keep (gN::Ez pc A) w wt
 x1: ∀x∈X,x∈Xt
 x2: ∀x∈Xt,x∈X∨w.heap.size≤x
 x3: ∀x∈Xt,x<wt.heap.size
 m1: ∀m∈Mt,m∈M∨w.heap.size≤m
 y1: ∀y∈ay At,y∈ay A∨w.heap.size≤y
 t1:w.heap.size∈Xt
 t2:w.heap.size∉rcs pc pm gN At Mt
 lr:jR wt w.heap.size [.int .i64 0,.int .i64 0]
theorem RTkS.fin {wt:World} {Xt Mt:List Nat} {r:Ca×Nat×Ob} {vt:Value} {At:SA} {ct:Ca} {m:Nat} {s:Sl} {p:Nat×Nat} (h:RTkS w wt pc pm gN e mn lw hi O X M A r Xt Mt vt At ct m s p) {W W':World} (hW:W=wt.setCell ⟨p.2,lG s.T,none⟩ (.bool true)) (k:Keep [w.heap.size] W W'):
 vM X pc pm gN e mn lw hi O M A w r (.returned (.tuple #[obV r.2.2,.int .i64 0])) W':=by
 have e2:r.2.1=0:=by rw[h.rr]
 have e1:r.1=⟨ct.L,ct.C.set m (oH s (lG s.T) true)⟩:=by rw[h.rr]
 have c1:=h.rc.use h.hp h.hs (k:=lG s.T) true (mX h.hm).1;rw[←hW] at c1;have s2:Keep [p.2] wt W:=by rw[hW];exact(Keep.refl _ _).setCell (p:=⟨p.2,lG s.T,none⟩) (.inl sI) _
 have c2:=c1.keep k (fun x hx=>by simp at hx;subst hx;exact .inl ⟨h.t1,h.t2⟩);refine⟨by rw[e2];rfl,Xt,Mt,vt,At,by rw[e1];exact c2,?_,h.x1,h.x2,fun x hx=>aC (h.x3 x hx) (bW s2.size k.size),h.m1,h.y1⟩;refine(h.kk.trans s2 (fun x hx=> ?_)).trans k (fun x hx=>by simp at hx;subst hx;exact .inr (aI _));simp at hx;subst hx;exact(h.y1 _ (Dl h.hp).2).imp (fun q=>ak _ (ak _ q)) id
theorem Tk (v1:Int) (u:Bool) (h:RC X w pc pm gN e mn lw hi O M v A c) (hX: ∀x∈X,x<w.heap.size) (hv:v1<0∨(c.L.length:Int)≤v1):
 Calls prog 76 #[.pointer (some ⟨pc,0,none⟩),.int .i64 v1,.bool u] w (vM X pc pm gN e mn lw hi O M A w (takeC mn O e c v1 u)):=by
 have et:takeC mn O e c v1 u=(c,2,(0,0)):=by unfold takeC;rw[if_pos hv]
 rw[et];have b1:Below w.heap.size w (w.alloc (.cells #[.int .i64 0,.int .i64 0] 40)):=jY;have L1:=ah (show jR (w.alloc (.cells #[.int .i64 0,.int .i64 0] 40)) w.heap.size [.int .i64 0,.int .i64 0] from jR.mk_ w [.int .i64 0,.int .i64 0] 40 rfl);obtain⟨W1,hW1⟩:=eY (w.alloc (.cells #[.int .i64 0,.int .i64 0] 40));rw[←hW1] at b1 L1;have NO:=uZ pm gN mn lw hi O M c.L v1 W1 (h.z.below b1);rw[dQf (show¬(0≤v1∧v1<c.L.length) by omega)] at NO;have HNO:=ah NO;have z01:=L1.out.lt;have HB1:=ah b1;have c0:=h.b.c.gC 0;have cl:=h.b.c.lt;have FIN:Hid (∀W W',Below w.heap.size w W→Keep [w.heap.size] W W'→vM X pc pm gN e mn lw hi O M A w (c,2,(0,0)) (.returned (.tuple #[.agg #[.int .i64 0,.int .i64 0],.int .i64 2])) W'):=fun W W' b k=>by
  have b2:Below w.heap.size w W':=b.trans (k.below b.size (fun s q=>by simp at q;omega));exact⟨rfl,X,M,v,A,h.below b2,Keep.of b2,fun _ q=>q,fun _ q=>.inl q,fun x hx=>aC (hX x hx) b2.size,fun _ q=>.inl q,fun _ q=>.inl q⟩
 clear h hv b1 et NO;go_in
 go_wp2_with fail;rw[←hW1];clear hW1;refine HNO.out.mono ?_;rintro r w1 ⟨rfl,hb1⟩;have MM:=L1.out.go hb1;have m0:=MM.gC 0;have m1:=MM.gC 1;have f0:=MM.f 0 sI;have f1:=MM.f 1 sI;have ml:=MM.lt;have HM:=ah (MM.lq (.int .i64 0) (.int .i64 0));clear MM HNO;go_wp2;have x0:=HM.out.gC 0;have x1:=HM.out.gC 1;exact bodyPost_ret (v:=.tuple #[.agg #[.int .i64 0,.int .i64 0],.int .i64 2]) (by simp[x0,x1,results,Tryz.results76,go_sem]) rfl (FIN.out w1 _ (HB1.out.trans (hb1.mono om)) (((Keep.refl _ _).setCell (p:=⟨w.heap.size,0,none⟩) (.inl sI) _).setCell (p:=⟨w.heap.size,1,none⟩) (.inl sI) _))
def FX (C:List Sl) (b:Option Nat):Int:=match b with|none=> -1|some m=>BF C m
theorem JR (v1:Nat) (u:Bool) (h:RC X w pc pm gN e mn lw hi O M v A c) (hI:uR e c) (hX: ∀x∈X,x<w.heap.size) (hv:v1<c.L.length):
 Calls prog 76 #[.pointer (some ⟨pc,0,none⟩),.int .i64 v1,.bool u] w (vM X pc pm gN e mn lw hi O M A w (takeC mn O e c v1 u)):=by
 have hvn: ¬((v1:Int)<0∨(c.L.length:Int)≤(v1:Int)):=om;have e1:=hI.e1;have e2:=hI.e2;have few:=hI.few;have HTC:Hid (takeC mn O e c v1 u=match oh v1 c.C c.C.length with
  |some i=>match c.C[i]? with
   |none=>(c,2,(0,0))
   |some s=>(⟨c.L,c.C.set i (oH s (lG s.T) true)⟩,0,vK e s (lG s.T))
  |none=>if (lQ mn O c.L v1 0 u).2.1=0 then
    (⟨(lQ mn O c.L v1 0 u).1,wC c.C (oH ⟨(lQ mn O c.L v1 0 u).2.2.1,(lQ mn O c.L v1 0 u).2.2.2.1,kU e⟩ 0 true)⟩,0,((lQ mn O c.L v1 0 u).2.2.1,(lQ mn O c.L v1 0 u).2.2.2.1*64))
   else(⟨(lQ mn O c.L v1 0 u).1,c.C⟩,(lQ mn O c.L v1 0 u).2.1,(0,0))):=by
  show _=_;unfold takeC;rw[if_neg hvn];rfl
 have HRNG:Hid (∀s∈(takeC mn O e c v1 u).1.C,0≤s.pg∧s.pg<256):=fun s hs=>by
  have:=(wL (mn:=mn) (v:=(v1:Int)) (u:=u) h.z.ord hI).rng hs;exact⟨this.2.2.1,this.2.2.2⟩
 obtain⟨R,hR⟩:=eY (takeC mn O e c v1 u);rw[←hR] at HTC HRNG ⊢;clear hR;have TZ0:=ah (Eu (mn:=mn) (u:=u) h.z.ord hv);have b1:Below w.heap.size w (w.alloc (.cells #[.int .i64 0,.int .i64 0] 40)):=jY;have L1:jR (w.alloc (.cells #[.int .i64 0,.int .i64 0] 40)) w.heap.size [.int .i64 0,.int .i64 0]:=jR.mk_ w [.int .i64 0,.int .i64 0] 40 rfl;have h1:RC (w.heap.size::X) (w.alloc (.cells #[.int .i64 0,.int .i64 0] 40)) pc pm gN e mn lw hi O M v A c:=(h.more (fun x hx=>ak _ hx) (fun y hy=>by
  rcases aB.1 hy with rfl|q
  ·exact .inr (aI _)
  ·exact .inl q)).below b1
 have NR:Hid (w.heap.size∉rcs pc pm gN A M):=fun q=>by have:=h.lt _ q;omega
 obtain⟨W1,hW1⟩:=eY (w.alloc (.cells #[.int .i64 0,.int .i64 0] 40));rw[←hW1] at b1 L1 h1;have z01:w.heap.size<W1.heap.size:=L1.lt;have HX1:Hid (∀x∈w.heap.size::X,x<W1.heap.size):=fun x hx=>by
  rcases aB.1 hx with rfl|q
  ·exact z01
  ·have:=hX x q;omega
 have NO:=uZ pm gN mn lw hi O M c.L v1 W1 h1.z;rw[dQt (show 0≤(v1:Int)∧(v1:Int)<c.L.length by omega)] at NO;have HNO:=ah NO;have c0:=h.b.c.gC 0;have cl:=h.b.c.lt;obtain⟨qv,kv,evs,kv1,kv2,hrow⟩:=h1.b.form;subst evs;have D6:=ah hrow;have H1:=ah h1;have HL1:=ah L1;have HB1:=ah b1;have HI:=ah hI;clear h L1 h1 b1 hrow hI hvn NO;go_in
 go_wp2_with fail;rw[←hW1];clear hW1;refine HNO.out.mono ?_;rintro r w1 ⟨rfl,hb1⟩;have HC1:=ah (H1.out.below hb1);have HLR:=ah (HL1.out.go hb1);have HBW:=ah (show Below w.heap.size w w1 from HB1.out.trans (hb1.mono om));have HROW1:Hid (∀(j:Nat) (p:Nat×Nat),A[j]?=some p→∃g of,qv=some ⟨g,of,none⟩∧g<w1.heap.size∧w1.cell? ⟨g,of+j,none⟩=some (.pointer (some ⟨p.1,0,none⟩))):=fun j p hj=>by
  obtain⟨g,of,a1,a2,a3⟩:=D6.out j p hj;exact⟨g,of,a1,aC a2 hb1.size,(hb1.cell (p:=⟨g,of+j,none⟩) a2).trans a3⟩
 have z11:=hb1.size;obtain⟨n,hn⟩:=eY c.C.length;have EN:=ah hn;rw[←hn] at few kv1;unfold maxLen at kv2;have KC:Hid (∀W,Below w1.heap.size w1 W→W.cell? ⟨pc,0,none⟩=some (.pointer (some ⟨pm,0,none⟩))∧W.cell? ⟨pc,1,none⟩=some (.int .i64 e)∧W.cell? ⟨pc,2,none⟩=some (.slice qv n kv)∧pc<W.heap.size):=fun W b=>by
  have t:=HC1.out.b.c.go b;rw[EN.out];exact⟨t.gC 0,t.gC 1,t.gC 2,t.lt⟩
 clear HNO D6 H1 HL1 HB1 hb1 hn c0 cl;go_wp2_with fail;go_loopw [9,10,11] (fun bv mv iv wr=>∃i:Nat,i≤n∧iv= .int .i64 i∧bv=Dj A (oh v1 c.C i)∧mv= .int .i64 (FX c.C (oh v1 c.C i))∧Below w1.heap.size w1 wr) (fun _ _ iv _=>n-(intOf iv).toNat);case atStart=>exact⟨0,om,by go_num,rfl,rfl,aL _ _⟩
 case round=>
  obtain⟨i,hile,rfl,hbv,hmv,hbel⟩:=hrel;obtain⟨c0,c1,c2,cl⟩:=KC.out _ hbel;have HCR:=ah (HC1.out.below hbel);have BW:Hid (∀W,Below wr.heap.size wr W→Below w1.heap.size w1 W):=fun W b=>hbel.trans (b.mono hbel.size)
  by_cases hin:i<n
  ·obtain⟨s,hs⟩: ∃s,c.C[i]?=some s:=⟨c.C[i]'(by rw[←EN.out];exact hin),aA _⟩
   obtain⟨p,hp,hsl⟩:=HCR.out.b.at hs;obtain⟨g,of,rfl,hg,hc0⟩:=HROW1.out i p hp;have ck:wr.cell? ⟨g,of+i,none⟩=some (.pointer (some ⟨p.1,0,none⟩)):=(hbel.cell (p:=⟨g,of+i,none⟩) hg).trans hc0;have gl:g<wr.heap.size:=aC hg hbel.size;have hik:i<kv:=om;obtain⟨d0,d1,_,d3,dl,_⟩:=hsl.cells;have l64:s.T.length≤64:=by rw[HI.out.len s (aF hs)];unfold kL;exact dW _ _
   have MN:=ah (rmany_ok p s wr hsl l64);have hm64:kK s≤64:=bW (qR _) l64;have MA:=yJ hs;have BV:=ah (qG hp);have hii:(i:Int)<(n:Int):=om;have hi0:(0:Int)≤(i:Int):=om;clear hc0 hsl hg;by_cases h1:s.nd=v1
   ·have b1:(s.nd==(v1:Int))=true:=by simp[h1]
    have b1':decide (s.nd=(v1:Int))=true:=by simp[h1]
    by_cases h2:kK s<s.T.length
    ·have b2:decide (kK s<s.T.length)=true:=dQt h2
     have b2':decide ((kK s:Int)<(s.T.length:Int))=true:=dQt om;cases hb:oh v1 c.C i with
     |none=>
      have EQ:=ah (Hr hs ⟨h1,h2⟩ hb);rw[hb] at hbv hmv;simp only[Dj,FX] at hbv hmv;subst hbv hmv;have b3:decide ((-1:Int)<(kK s:Int))=true:=dQt om;have HMA:Hid (BF c.C i=kK s):=MA;clear hs hp h1 hb MA;generalize kK s=a at*
      generalize s.T.length=l at*
      go_wp2_with fail;refine MN.out.mono ?_;rintro r w2 ⟨rfl,rfl⟩;go_wp2;go_roundw;case rel=>exact⟨i+1,om,by go_num,(by rw[EQ.out,BV.out]),(by rw[EQ.out];simp only[FX,HMA.out]),hbel⟩
      case measure=>simp[intOf];omega
     |some m=>
      obtain⟨_,z,hz,_,_⟩:=mV hb;obtain⟨y,hy,hyl⟩:=HCR.out.b.at hz;have BY:=ah (qG hy);have EQ:=ah (Et hs ⟨h1,h2⟩ hb hz);rw[hb,qG hy] at hbv;rw[hb] at hmv;simp only[FX,yJ hz] at hmv;subst hbv hmv;have MZ:Hid (BF c.C m=kK z):=yJ hz;have HMA:Hid (BF c.C i=kK s):=MA;by_cases h3:kK z<kK s
      ·have b3:decide (kK z<kK s)=true:=dQt h3
       have b3':decide ((kK z:Int)<(kK s:Int))=true:=dQt om;have EQ2:=ah (show oh v1 c.C (i+1)=some i by rw[EQ.out,if_pos h3]);clear hs hp h1 hb hz hy hyl EQ MA;generalize kK s=a at*
       generalize s.T.length=l at*
       generalize kK z=a' at*
       go_wp2_with fail;refine MN.out.mono ?_;rintro r w2 ⟨rfl,rfl⟩;go_wp2;go_roundw;case rel=>exact⟨i+1,om,by go_num,(by rw[EQ2.out,BV.out]),(by rw[EQ2.out];simp only[FX,HMA.out]),hbel⟩
       case measure=>simp[intOf];omega
      ·have b3:decide (kK z<kK s)=false:=dQf h3
       have b3':decide ((kK z:Int)<(kK s:Int))=false:=dQf om;have EQ2:=ah (show oh v1 c.C (i+1)=some m by rw[EQ.out,if_neg h3]);clear hs hp h1 hb hz hy hyl EQ h3 MA;generalize kK s=a at*
       generalize s.T.length=l at*
       generalize kK z=a' at*
       go_wp2_with fail;refine MN.out.mono ?_;rintro r w2 ⟨rfl,rfl⟩;go_wp2;go_roundw;case rel=>exact⟨i+1,om,by go_num,(by rw[EQ2.out,BY.out]),(by rw[EQ2.out];simp only[FX,MZ.out]),hbel⟩
       case measure=>simp[intOf];omega
    ·have b2:decide (kK s<s.T.length)=false:=dQf h2
     have b2':decide ((kK s:Int)<(s.T.length:Int))=false:=dQf om;have EQ:=ah (Av (v:=(v1:Int)) hs (fun q=>h2 q.2));obtain⟨bvv,hbvv⟩: ∃x,x=Dj A (oh v1 c.C i):=⟨_,rfl⟩;obtain⟨mvv,hmvv⟩: ∃x,x=FX c.C (oh v1 c.C i):=⟨_,rfl⟩;rw[←hbvv] at hbv;rw[←hmvv] at hmv;subst hbv hmv;have HBV:=ah hbvv;have HMV:=ah hmvv;clear hs hp h1 h2 hbvv hmvv MA;generalize kK s=a at*
     generalize s.T.length=l at*
     go_wp2_with fail;refine MN.out.mono ?_;rintro r w2 ⟨rfl,rfl⟩;go_wp2;go_roundw;case rel=>exact⟨i+1,om,by go_num,(by rw[EQ.out];exact HBV.out),(by rw[EQ.out,HMV.out]),hbel⟩
     case measure=>simp[intOf];omega
   ·have b1:(s.nd==(v1:Int))=false:=by simp[h1]
    have b1':decide (s.nd=(v1:Int))=false:=by simp[h1]
    have EQ:=ah (Av (v:=(v1:Int)) hs (fun q=>h1 q.1));obtain⟨bvv,hbvv⟩: ∃x,x=Dj A (oh v1 c.C i):=⟨_,rfl⟩;obtain⟨mvv,hmvv⟩: ∃x,x=FX c.C (oh v1 c.C i):=⟨_,rfl⟩;rw[←hbvv] at hbv;rw[←hmvv] at hmv;subst hbv hmv;have HBV:=ah hbvv;have HMV:=ah hmvv;clear hs hp h1 hbvv hmvv MA;generalize kK s=a at*
    go_wp2_with fail;refine MN.out.mono ?_;rintro r w2 ⟨rfl,rfl⟩;go_wp2;go_roundw;case rel=>exact⟨i+1,om,by go_num,(by rw[EQ.out];exact HBV.out),(by rw[EQ.out,HMV.out]),hbel⟩
    case measure=>simp[intOf];omega
  ·obtain rfl:i=n:=by omega
   have HBR:=ah (show Below w.heap.size w wr from HBW.out.trans (hbel.mono (by have:=HBW.out.size;omega)));have HLW:=ah (HLR.out.go hbel);have HXR:Hid (∀x∈w.heap.size::X,x<wr.heap.size):=fun x hx=>by have:=HX1.out x hx;have:=hbel.size;omega
   subst hmv;cases hb:oh v1 c.C i with
   |some m=>
    obtain⟨_,s,hs,hnd,hm⟩:=mV hb;obtain⟨p,hp,_⟩:=HCR.out.b.at hs;rw[hb,qG hp] at hbv;subst hbv;have rr:R=(⟨c.L,c.C.set m (oH s (lG s.T) true)⟩,0,vK e s (lG s.T)):=by
     have:=HTC.out;rw[←EN.out,hb] at this;simpa[hs] using this
    have hl64:s.T.length≤64:=by rw[HI.out.len s (HI.out.get hs)];unfold kL;exact dW _ _
    have hrg:=(HI.out.rng (aF hs)).2.2;have TS:=ah (show RTkS w wr pc pm gN e mn lw hi O X M A R (w.heap.size::X) M (.slice qv c.C.length kv) A c m s p from⟨HCR.out,hs,hp,hm,hl64,hrg,rr,Keep.of HBR.out,fun x hx=>ak _ hx,fun x hx=>by
     rcases aB.1 hx with rfl|q
     ·exact .inr (aI _)
     ·exact .inl q,HXR.out,fun _ q=>.inl q,fun y hy=>.inl hy,aG ..,NR.out,HLW.out⟩)
    clear hb hs hp rr hm hnd hrg hbel TZ0 HTC;obtain⟨wt,ewt⟩:=eY wr;subst ewt;obtain⟨f1,f2,f3⟩:=mX TS.out.hm;have SLB:=TS.out.rc.b.sl m p s TS.out.hp TS.out.hs;obtain⟨d0,d1,_,d3,dl,dl2⟩:=SLB.cells;obtain⟨k,hk⟩:=eY (lG s.T);have HK:=ah hk;have F3:Hid (∀j,j<k→s.T[j]?=some true):=by rw[hk];exact f3
    rw[←hk] at f1 f2;have l64:=TS.out.hl;have HSB:=ah SLB.2;have fz:wt.frozen? ⟨p.2,k,none⟩=false:=SLB.2.f k (by rw[qF];omega);have ck:wt.cell? ⟨p.2,k,none⟩=some (.bool false):=SLB.2.c k _ (oq f2);obtain⟨g0,g1⟩:=TS.out.pg;have ke0:(0:Int)≤(k:Int)*(e:Int):=fO om om;have ke1:(k:Int)*(e:Int)≤4096:=by
     have:=eP (show k≤64 by omega) e2;have h2:((k*e:Nat):Int)≤((64*64:Nat):Int):=om;simpa using h2
    have ro:obV R.2.2= .agg #[.int .i64 s.nd,.int .i64 (s.pg*64+(k:Int)*(e:Int))]:=by rw[TS.out.rr,←HK.out];rfl
    have RO:=ah ro;clear hk f2 ro f3 SLB;obtain⟨l,hll⟩:=eY s.T.length;have HLL:=ah hll;rw[←hll] at d3 f1 l64;clear hll;go_wp2_with fail;go_loopw [17] (fun kvv wr=>∃j:Nat,j≤k∧kvv= .int .i64 j∧wr=wt) (fun kvv _=>k-(intOf kvv).toNat);case atStart=>exact⟨0,bq _,by go_num,rfl⟩
    case round=>
     obtain⟨j,hj,rfl,rfl⟩:=hrel;by_cases hjk:j<k
     ·have cj:=HSB.out.c j _ (oq (F3.out j hjk))
      have hjl:(j:Int)<(l:Int):=om;have hj0:(0:Int)≤(j:Int):=om;go_wp2;go_round
      case rel=>exact⟨j+1,om,by go_num,trivial⟩
      case measure=>simp[intOf];omega
     ·obtain rfl:j=k:=by omega
      have hjl:(j:Int)<(l:Int):=om;have hj0:(0:Int)≤(j:Int):=om;have hw1:IntKind.i64.wrap (s.pg*64)=s.pg*64:=aY _ om;have hw2:IntKind.i64.wrap ((j:Int)*(e:Int))=(j:Int)*(e:Int):=aY _ om;have hw3:IntKind.i64.wrap (s.pg*64+(j:Int)*(e:Int))=s.pg*64+(j:Int)*(e:Int):=aY _ om;go_wp2_with fail;obtain⟨W,hW⟩:=eY (wr.setCell ⟨p.2,j,none⟩ (.bool true));rw[←hW];have hW':=ah (show W=wr.setCell ⟨p.2,lG s.T,none⟩ (.bool true) by rw[←HK.out];exact hW);have RW:=TS.out.rc.use TS.out.hp TS.out.hs (k:=j) true (by rw[←HLL.out];exact f1);rw[←hW] at RW;have SP:=RW.b.sl m p (oH s j true) TS.out.hp (by rw[aZ (au.1 TS.out.hs).1]);obtain⟨a0,a1,_,_,al,_⟩:=SP.cells;have LC:=RW.b.c;have q1:=LC.gC 1;have ql:=LC.lt;have kp:Keep [p.2] wr W:=by rw[hW];exact(Keep.refl _ _).setCell (p:=⟨p.2,j,none⟩) (.inl sI) _
      have LRW:jR W w.heap.size [.int .i64 0,.int .i64 0]:=TS.out.lr.keep kp (fun q=>TS.out.t2 (av _ (ak _ (bL.1 q▸(Dl TS.out.hp).2))));have v0:=LRW.gC 0;have v1':=LRW.gC 1;have vf0:=LRW.f 0 sI;have vf1:=LRW.f 1 sI;have vl:=LRW.lt;have n0:=LRW.mP.gC 0;have n1:=LRW.mP.gC 1;have nf0:=LRW.mP.f 0 sI;have nf1:=LRW.mP.f 1 sI;have HRW:=ah (LRW.lq (.int .i64 s.nd) (.int .i64 (s.pg*64+(j:Int)*(e:Int))));have HRX:=ah (LRW.store 0 (.int .i64 s.nd) sI);clear d0 d1 d3 ck fz hW SP LC LRW RW kp;simp only[oH] at a0 a1;refine lJ 20 kR kR ?_;simp only[aQ,aV,aP,aU];repeat still_step
      refine wpStill_nil ?_;go_wp2;have x0:=HRW.out.gC 0;have x1:=HRW.out.gC 1;have y0:=HRX.out.gC 0;refine bodyPost_ret (v:=.tuple #[.agg #[.int .i64 s.nd,.int .i64 (s.pg*64+(j:Int)*(e:Int))],.int .i64 0]) ?_ rfl ?_
      ·simp[x0,x1,y0,results,Tryz.results76,go_sem]
      ·rw[←RO.out]
       exact TS.out.fin hW'.out (((Keep.refl _ _).setCell (p:=⟨w.heap.size,0,none⟩) (.inl sI) _).setCell (p:=⟨w.heap.size,1,none⟩) (.inl sI) _).drew
   |none=>
    rw[hb] at hbv;simp only[Dj] at hbv;subst hbv;simp only[FX];have TK:=Ti pm gN mn lw hi O M c.L v1 0 u wr HCR.out.z HXR.out;have SZ:=ah (tQ mn O c.L v1 0 u);obtain⟨L',q,nd,pg,k,hz⟩: ∃L' q nd pg k,lQ mn O c.L v1 0 u=(L',q,(nd,pg,k)):=⟨_,_,_,_,_,rfl⟩;have rr:=HTC.out;rw[←EN.out,hb] at rr;simp only[hz] at rr;rw[hz] at TK SZ;cases q with
    |succ q=>
     rw[if_neg om] at rr;have HTK:=ah TK;have HRR:=ah rr;have hq:decide ((0:Int)<((q+1:Nat):Int))=true:=dQt om;have hq':(0:Int)<((q+1:Nat):Int):=om;obtain⟨qc,hqc⟩: ∃qc:Int,qc=((q+1:Nat):Int):=⟨_,rfl⟩;have HQC:=ah hqc;rw[←hqc] at hq hq';clear hb rr hz TK hqc TZ0 HTC;go_wp2_with fail;refine HTK.out.mono ?_;rintro r w3 ⟨hr,⟨X',M',hrz,x1,x2,x3,x4⟩,hk3⟩;simp only[plV] at hr;rw[←HQC.out] at hr;subst hr;have gX:=HCR.out.z.mem.2;have gne: ∀y∈Ez pc A,y≠gN:=fun y hy=>(HCR.out.ne y hy).2.1
     have HRC:=ah (show RC X' w3 pc pm gN e mn lw hi O M' (.slice qv c.C.length kv) A ⟨L',c.C⟩ from⟨hrz,(HCR.out.b.more x1 x2).keep hk3 (fun s hs=>by simp at hs;subst hs;exact⟨fun t=>gne _ t rfl,.inl (x1 _ gX)⟩),fun y hy=>⟨(HCR.out.ne y hy).1,(HCR.out.ne y hy).2.1,fun t=>by
      rcases x4 y t with r|r
      ·exact(HCR.out.ne y hy).2.2 r
      ·have:=HCR.out.b.lt y hy;omega⟩⟩)
     have KW:=ah ((Keep.of (S:=[gN]) HBR.out).then hk3);have NM3:Hid (w.heap.size∉rcs pc pm gN A M'):=fun t=>by
      rcases aD.1 t with r|r
      ·exact NR.out (av _ r)
      ·rcases aB.1 r with r|r
       ·exact NR.out (by rw[r];exact aj _ (aG ..))
       ·rcases aB.1 r with r|r
        ·exact NR.out (by rw[r];exact aj _ (ak _ (aG ..)))
        ·rcases x4 _ r with r|r
         ·exact NR.out (aj _ (ak _ (ak _ r)))
         ·have:=HLW.out.lt;omega
     have ng:w.heap.size∉[gN]:=fun t=>NR.out (by rw[bL.1 t];exact aj _ (ak _ (aG ..)))
     have LR3:=ah (HLW.out.keep hk3 ng);have X1:Hid (∀x∈X,x∈X'):=fun x hx=>x1 x (ak _ hx)
     have X2:Hid (∀x∈X',x∈X∨w.heap.size≤x):=fun x hx=>by
      rcases x2 x hx with r|r
      ·rcases aB.1 r with r|r
       ·exact .inr om
       ·exact .inl r
      ·exact .inr (by have:=HBR.out.size;omega)
     have X3:Hid (∀x∈X',x<w3.heap.size):=x3;have X4:Hid (∀m∈M',m∈M∨w.heap.size≤m):=fun m hm=>(x4 m hm).imp id (fun r=>by have:=HBR.out.size;omega)
     have X0:Hid (w.heap.size∈X'):=x1 _ (aG ..);clear hrz x1 x2 x3 x4 hk3 gX gne ng HTK;have P3:Below w3.heap.size w3 (w3.alloc (.cells #[.int .i64 nd,.int .i64 pg,.int .i64 k] 215)):=jY;have MM:=LR3.out.go P3;have m0:=MM.gC 0;have m1:=MM.gC 1;have f0:=MM.f 0 sI;have f1:=MM.f 1 sI;have ml:=MM.lt;have HM:=ah (MM.lq (.int .i64 0) (.int .i64 0));have FIN:Hid (∀W,Keep [w.heap.size] (w3.alloc (.cells #[.int .i64 nd,.int .i64 pg,.int .i64 k] 215)) W→vM X pc pm gN e mn lw hi O M A w R (.returned (.tuple #[.agg #[.int .i64 0,.int .i64 0],.int .i64 qc])) W):=fun W kk=>by
      have k1:Keep [w.heap.size] w3 W:=(Keep.of P3).then kk;refine⟨by rw[HRR.out,HQC.out];rfl,X',M',_,A,by rw[HRR.out];exact HRC.out.keep k1 (fun x hx=>by simp at hx;subst hx;exact .inl ⟨X0.out,NM3.out⟩),?_,X1.out,X2.out,fun x hx=>aC (X3.out x hx) k1.size,X4.out,fun y hy=>.inl hy⟩;exact(KW.out.mono (fun s hs=>by simp at hs;subst hs;exact aG ..)).trans k1 (fun x hx=>by simp at hx;subst hx;exact .inr (aI _))
     clear MM P3;go_wp2;have x0:=HM.out.gC 0;have x1:=HM.out.gC 1;exact bodyPost_ret (v:=.tuple #[.agg #[.int .i64 0,.int .i64 0],.int .i64 qc]) (by simp[x0,x1,results,Tryz.results76,go_sem]) rfl (FIN.out _ (((Keep.refl _ _).setCell (p:=⟨w.heap.size,0,none⟩) (.inl sI) _).setCell (p:=⟨w.heap.size,1,none⟩) (.inl sI) _))
    |zero=>
     rw[if_pos rfl] at rr;have hk:=TZ0.out;rw[hz] at hk;simp only at hk;subst hk;have HTK:=ah TK;have HRR:=ah rr;clear hb rr hz TK TZ0 HTC;go_wp2_with fail;refine HTK.out.mono ?_;rintro r w3 ⟨hr,⟨X',M',hrz,x1,x2,x3,x4⟩,hk3⟩;simp only[plV] at hr;subst hr;have gX:=HCR.out.z.mem.2;have gne: ∀y∈Ez pc A,y≠gN:=fun y hy=>(HCR.out.ne y hy).2.1
     have HRC:=ah (show RC X' w3 pc pm gN e mn lw hi O M' (.slice qv c.C.length kv) A ⟨L',c.C⟩ from⟨hrz,(HCR.out.b.more x1 x2).keep hk3 (fun s hs=>by simp at hs;subst hs;exact⟨fun t=>gne _ t rfl,.inl (x1 _ gX)⟩),fun y hy=>⟨(HCR.out.ne y hy).1,(HCR.out.ne y hy).2.1,fun t=>by
      rcases x4 y t with r|r
      ·exact(HCR.out.ne y hy).2.2 r
      ·have:=HCR.out.b.lt y hy;omega⟩⟩)
     have KW:=ah ((Keep.of (S:=[gN]) HBR.out).then hk3);have NM3:Hid (w.heap.size∉rcs pc pm gN A M'):=fun t=>by
      rcases aD.1 t with r|r
      ·exact NR.out (av _ r)
      ·rcases aB.1 r with r|r
       ·exact NR.out (by rw[r];exact aj _ (aG ..))
       ·rcases aB.1 r with r|r
        ·exact NR.out (by rw[r];exact aj _ (ak _ (aG ..)))
        ·rcases x4 _ r with r|r
         ·exact NR.out (aj _ (ak _ (ak _ r)))
         ·have:=HLW.out.lt;omega
     have ng:w.heap.size∉[gN]:=fun t=>NR.out (by rw[bL.1 t];exact aj _ (ak _ (aG ..)))
     have LR3:=ah (HLW.out.keep hk3 ng);have X1:Hid (∀x∈X,x∈X'):=fun x hx=>x1 x (ak _ hx)
     have zwr:w.heap.size<wr.heap.size:=HLW.out.lt;have z3:=hk3.size;have X2:Hid (∀x∈X',x∈X∨w.heap.size≤x):=fun x hx=>by
      rcases x2 x hx with r|r
      ·rcases aB.1 r with r|r
       ·exact .inr om
       ·exact .inl r
      ·exact .inr om
     have X3:Hid (∀x∈X',x<w3.heap.size):=x3;have X4:Hid (∀m∈M',m∈M∨w.heap.size≤m):=fun m hm=>(x4 m hm).imp id (fun r=>om)
     have X0:Hid (w.heap.size∈X'):=x1 _ (aG ..);have C3:=HRC.out.b.c;have g1:=C3.gC 1;have g2:=C3.gC 2;have gl:=C3.lt;rw[show c.C.length=i from EN.out.symm] at g2;clear hrz x1 x2 x3 x4 hk3 gX gne ng HTK c0 c1 c2 cl hbel C3;go_wp2_with fail;obtain⟨W4,hW4⟩:=eY (w3.alloc (.cells #[.int .i64 nd,.int .i64 pg,.int .i64 0] 215));rw[←hW4];have P4:jR W4 w3.heap.size [.int .i64 nd,.int .i64 pg,.int .i64 0]:=by rw[hW4];exact jR.mk_ w3 [.int .i64 nd,.int .i64 pg,.int .i64 0] 215 rfl
     have b4:Below w3.heap.size w3 W4:=by rw[hW4];exact jY
     have s4:W4.heap.size=w3.heap.size+1:=by rw[hW4];simp
     clear hW4;have p0:=P4.gC 0;have p1:=P4.gC 1;have p2:=P4.gC 2;have pl:=P4.lt;have y1:W4.cell? ⟨pc,1,none⟩=some (.int .i64 e):=(b4.cell (p:=⟨pc,1,none⟩) gl).trans g1;have yl:pc<W4.heap.size:=om;have en0: ¬((e:Int)=0):=om;have en1: ¬(e=0):=om;have hq0:(64:Int) / (e:Int)=(kL e:Int):=by unfold kL;rw[Int.natCast_ediv];rfl
     have hq:(64:Int).tdiv (e:Int)=(kL e:Int):=by rw[fI om];exact hq0
     have r64:kL e≤64:=by unfold kL;exact dW _ _
     have hwr:IntKind.i64.wrap ((kL e:Nat):Int)=(kL e:Int):=aY _ om;have MK:Hid (∀W:World,(Instr.makeSlice 216 (.int .i64 (kL e:Nat)) (.int .i64 (kL e:Nat))).run prog W= .ok (.slice (some ⟨W.heap.size,0,none⟩) (kL e) (kL e)) (W.alloc (.cells (bools (kU e)).toArray 4))):=fun W=>by
      obtain⟨i0,hi0,hz0,hzs,hzb⟩:=info_parts (P:=prog) (e:=4) (z:=.bool false) (size:=1) (bytes:=1) kR;have:=run_make (P:=prog) W 216 4 i0 _ Tryz.underlying216 hi0 hz0 .i64 .i64 (kL e:Nat) (kL e:Nat) om (bZ _) (by rw[hzb];omega) om;rw[this,hzs];simp only[bS,Nat.mul_one];have em:madeCells (Value.bool false).cells (kL e)=(bools (kU e)).toArray:=Es e;rw[em]
     clear g1 g2 gl;refine kE (S:=(fun w'=>w'.cell? ⟨w3.heap.size,0,none⟩=some (.int .i64 nd)∧w'.cell? ⟨w3.heap.size,1,none⟩=some (.int .i64 pg)∧w'.cell? ⟨w3.heap.size,2,none⟩=some (.int .i64 0)∧w'.cell? ⟨pc,1,none⟩=some (.int .i64 e))) 9 #[false,false,false,false,false,false,false,false,false] rfl kR kR (by(try dsimp only);go_keep) (fun hHeld=> ?_);simp only[aQ,aV];refine tk 0 ?_;refine tk 1 ?_;refine tk 2 ?_;refine tk 3 ?_;refine tk 4 ?_;refine tk 5 ?_;refine wpAnyH_ready (rs:=[6]) kR sI ?_;refine aR (jT rfl) (fun K hK=> ?_) aX;refine yN rf 216 (.tmp 106) (.tmp 106) rf _ _ rf rf (MK.out _) ?_;refine hkO hK fun hHeld=> ?_
     clear hK K;refine tk 7 ?_;refine wpAnyH_ready (rs:=[8]) kR sI ?_;refine aR (jT rfl) (fun K hK=> ?_) aX;go_simp
     refine hkO hK fun hHeld=> ?_
     clear hK K;refine wpAnyH_done kR ?_ _;simp only[oz,aP,aU];go_wp2_with fail;have nl:(kU e).length=kL e:=by unfold kU;simp
     obtain⟨W5,hW5⟩:=eY (((W4.alloc (.cells (bools (kU e)).toArray 4)).alloc (.cells #[.int .i64 nd,.int .i64 pg,.int .i64 0,.slice (some ⟨w3.heap.size+1,0,none⟩) (kL e) (kL e)] 224)).drew);rw[←hW5];have LG:jR W5 (w3.heap.size+1) (bools (kU e)):=by
      rw[hW5];exact((jR.mk_ W4 (bools (kU e)) 4 s4).past _).mP
     have LS:jR W5 (w3.heap.size+1+1) [.int .i64 nd,.int .i64 pg,.int .i64 0,.slice (some ⟨w3.heap.size+1,0,none⟩) (kL e) (kL e)]:=by
      rw[hW5];exact(jR.mk_ (W4.alloc (.cells (bools (kU e)).toArray 4)) [.int .i64 nd,.int .i64 pg,.int .i64 0,.slice (some ⟨w3.heap.size+1,0,none⟩) (kL e) (kL e)] 224 (by simp[s4])).mP
     have b5:Below W4.heap.size W4 W5:=by rw[hW5];exact jY
     have s5:W5.heap.size=w3.heap.size+1+1+1:=by rw[hW5];simp[s4]
     have RS5:=ah (show RSl W5 (w3.heap.size+1+1,w3.heap.size+1) ⟨nd,pg,kU e⟩ from⟨by
      show jR W5 (w3.heap.size+1+1) (Tj ⟨nd,pg,kU e⟩ (w3.heap.size+1));unfold Tj;simp only[nl];exact LS,LG⟩)
     have B35:=ah (show Below w3.heap.size w3 W5 from b4.trans (b5.mono om));have HP5:=ah (P4.go b5);obtain⟨N,hN⟩:=eY (vZ nd pg c.C);have HN:=ah hN;have hNi:N≤i:=by rw[hN,EN.out];exact zH _ _ _
     have KP:Hid (∀W,Below W5.heap.size W5 W→W.cell? ⟨pc,2,none⟩=some (.slice qv i kv)∧W.frozen? ⟨pc,2,none⟩=false∧pc<W.heap.size∧W.cell? ⟨w3.heap.size,0,none⟩=some (.int .i64 nd)∧W.cell? ⟨w3.heap.size,1,none⟩=some (.int .i64 pg)∧w3.heap.size<W.heap.size):=fun W b=>by
      have t:=HRC.out.b.c.go (B35.out.trans (b.mono om));have t2:=HP5.out.go b;rw[EN.out];exact⟨t.gC 2,t.f 2 sI,t.lt,t2.gC 0,t2.gC 1,t2.lt⟩
     have RW5:Hid (∀(j:Nat) (s:Sl),c.C[j]?=some s→∃(p:Nat×Nat) (g:Nat),A[j]?=some p∧qv=some ⟨g,0,none⟩∧∀W,Below W5.heap.size W5 W→W.cell? ⟨g,j,none⟩=some (.pointer (some ⟨p.1,0,none⟩))∧g<W.heap.size∧W.cell? ⟨p.1,0,none⟩=some (.int .i64 s.nd)∧W.cell? ⟨p.1,1,none⟩=some (.int .i64 s.pg)∧p.1<W.heap.size):=fun j s hs=>by
      obtain⟨p,hp,hsl⟩:=HRC.out.b.at hs;obtain⟨q',k',e1,_,_,hrow⟩:=HRC.out.b.form;injection e1 with e1 _ _;obtain⟨g,of,e2,e3,e4⟩:=hrow j p hp;have of0:of=0:=by
       rcases HRC.out.b.vn with r|⟨g',n',k',r⟩
       ·injection r with r _ _;rw[e1,e2] at r;cases r
       ·injection r with r _ _;rw[e1,e2] at r;injection r with r;injection r
      subst of0;refine⟨p,g,hp,e1.trans e2,fun W b=> ?_⟩;have bb:=B35.out.trans (b.mono om);obtain⟨d0,d1,_,_,dl,_⟩:=(hsl.below bb).cells;rw[bK] at e4;exact⟨(bb.cell (p:=⟨g,j,none⟩) e3).trans e4,aC e3 bb.size,d0,d1,dl⟩
     clear hN P4 p0 p1 p2 pl y1 yl en0 en1 hq0 hq hwr MK b4 b5 LG LS hW5 hHeld nl;go_loopw [15] (fun kvv wr=>∃j:Nat,j≤N∧kvv= .int .i64 j∧Below W5.heap.size W5 wr) (fun kvv _=>N-(intOf kvv).toNat);case atStart=>exact⟨0,bq _,by go_num,aL _ _⟩
     case round=>
      obtain⟨j,hj,rfl,hb5⟩:=hrel;obtain⟨t2,tf,tl,u0,u1,ul⟩:=KP.out _ hb5;have zr5:=hb5.size;by_cases hjN:j<N
      ·obtain⟨s,hs⟩: ∃s,c.C[j]?=some s:=⟨c.C[j]'(by rw[←EN.out];omega),aA _⟩
       have hlt:ltP s nd pg:=Jv (by rw[←HN.out];exact hjN) hs;obtain⟨p,g,_,rfl,hce⟩:=RW5.out j s hs;obtain⟨d0,dg,d1,d2,dl⟩:=hce _ hb5;have hji:(j:Int)<(i:Int):=om;have hj0:(0:Int)≤(j:Int):=om;have hjk:j<kv:=om;have dj:decide ((j:Int)<(i:Int))=true:=dQt hji;have HB5:=ah hb5;unfold ltP at hlt;clear hce hs hb5;by_cases q1:s.nd<nd
       ·have e1:decide (s.nd<nd)=true:=dQt q1
        clear hlt;go_wp2_with fail;go_quiet (fail);go_wp2;go_round
        case rel=>exact⟨j+1,om,by go_num,HB5.out.trans jY⟩
        case measure=>simp[intOf];omega
       ·have e1:decide (s.nd<nd)=false:=dQf q1
        have q2:s.nd=nd:=om;have q3:s.pg<pg:=om;have e2:decide (s.nd=nd)=true:=dQt q2;have e3:decide (s.pg<pg)=true:=dQt q3;clear hlt;go_wp2_with fail;go_quiet (fail);go_wp2;go_round
        case rel=>exact⟨j+1,om,by go_num,HB5.out.trans jY⟩
        case measure=>simp[intOf];omega
      ·obtain rfl:j=N:=by omega
       have STOP:Hid (∀s,c.C[j]?=some s→¬ltP s nd pg):=fun s hs=>by rw[HN.out] at hs;exact V8 hs
       have hj0:(0:Int)≤(j:Int):=om;by_cases hji:j=i;case' pos=>
        have dj:decide ((j:Int)<(i:Int))=false:=dQf om;have dj': ¬((j:Int)<(i:Int)):=om;go_wp2_with fail;go_quiet (fail)
       case' neg=>
        obtain⟨s,hs⟩: ∃s,c.C[j]?=some s:=⟨c.C[j]'(by rw[←EN.out];omega),aA _⟩;have hlt:=STOP.out s hs;obtain⟨p,g,_,hq,hce⟩:=RW5.out j s hs;obtain⟨d0,dg,d1,d2,dl⟩:=hce _ hb5;have HQ:=ah hq;rw[hq] at t2;have hji':(j:Int)<(i:Int):=om;have hjk:j<kv:=om;have dj:decide ((j:Int)<(i:Int))=true:=dQt hji';have q1:decide (s.nd<nd)=false:=dQf (fun q=>hlt (.inl q));have qq:Hid (decide (s.nd=nd)=true→decide (s.pg<pg)=false):=fun q=>dQf (fun r=>hlt (.inr ⟨of_decide_eq_true q,r⟩))
        clear hce hs hlt hq;cases q2:decide (s.nd=nd);case' false=>
         have q2':(s.nd==nd)=false:=by simpa using q2
         have q2'': ¬(s.nd=nd):=by simpa using q2
         go_wp2_with fail;go_quiet (fail)
        case' true=>
         have q3:=qq.out q2;have q2':(s.nd==nd)=true:=by simpa using q2
         go_wp2_with fail;go_quiet (fail)
       all_goals
        have MKT:Hid (∀(W W':World) q4 k4,Below W5.heap.size W5 W→W.ownsRow W5.heap.size 222 1 (.slice q4 (j+1+(i-j)) k4) (j+1+(i-j)) ((lW A).take j++[.pointer (some ⟨w3.heap.size+1+1,0,none⟩)]++(lW A).drop j)→W'=W.setCell ⟨pc,2,none⟩ (.slice q4 (j+1+(i-j)) k4)→
         RTkS w W' pc pm gN e mn lw hi O X M A R ((w3.heap.size+1+1)::(w3.heap.size+1)::X') M' (.slice q4 (j+1+(i-j)) k4) (A.take j++(w3.heap.size+1+1,w3.heap.size+1)::A.drop j) ⟨L',wC c.C ⟨nd,pg,kU e⟩⟩ j ⟨nd,pg,kU e⟩ (w3.heap.size+1+1,w3.heap.size+1)):=fun W W' q4 k4 b hown hW=>by
         have bb:=B35.out.trans (b.mono om);have mo:=(HRC.out.more (Y:=(w3.heap.size+1+1)::(w3.heap.size+1)::X') (fun x hx=>ak _ (ak _ hx)) (fun y hy=>by
          rcases aB.1 hy with rfl|hy
          ·exact .inr om
          ·rcases aB.1 hy with rfl|hy
           ·exact .inr om
           ·exact .inl hy)).below bb
         have hv:=own_vn hown;have lA:A.length=i:=by rw[HRC.out.b.len];exact EN.out.symm
         have es:lW (A.take j++(w3.heap.size+1+1,w3.heap.size+1)::A.drop j)=(lW A).take j++[.pointer (some ⟨w3.heap.size+1+1,0,none⟩)]++(lW A).drop j:=by
          rw[Hl];simp
         have el:j+1+(i-j)=(lW (A.take j++(w3.heap.size+1+1,w3.heap.size+1)::A.drop j)).length:=by
          rw[sj];simp[lA];omega
         have hr:nO ((w3.heap.size+1+1)::(w3.heap.size+1)::X') W (.slice q4 (j+1+(i-j)) k4) (lW (A.take j++(w3.heap.size+1+1,w3.heap.size+1)::A.drop j)):=by
          rw[←es] at hown;rw[el] at hown ⊢;exact qA hown (fun x hx g' hg' r=>by
           have:=(hown.lt g' hg').1;rcases aB.1 hx with q|hx
           ·omega
           ·rcases aB.1 hx with q|hx
            ·omega
            ·have:=X3.out x hx;omega)
         have far: ∀z,w3.heap.size≤z→z∉rcs pc pm gN A M':=fun z hz t=>by have:=HRC.out.lt z t;omega
         have kk:Keep [pc] W W':=by rw[hW];exact(Keep.refl _ _).setCell (p:=⟨pc,2,none⟩) (.inl sI) _
         have npc:w.heap.size≠pc:=fun t=>NR.out (by rw[t];exact av _ (aG ..))
         have f0:=BG e1 e2;have nl:(kU e).length=kL e:=by unfold kU;simp
         have hil:j≤c.C.length:=by rw[←EN.out];exact hNi
         have rc:=mo.ins (i:=j) hil (RS5.out.below b) hr hv hW (aG ..) (ak _ (aG ..)) (by show w3.heap.size+1+1≠w3.heap.size+1;omega) (far _ (by show w3.heap.size≤w3.heap.size+1+1;omega)) (far _ (by show w3.heap.size≤w3.heap.size+1;omega));have ei:wC c.C ⟨nd,pg,kU e⟩=c.C.take j++⟨nd,pg,kU e⟩::c.C.drop j:=by unfold wC;rw[←HN.out]
         have rrng:0≤pg∧pg<256:=by
          have hm:(oH ⟨nd,pg,kU e⟩ 0 true)∈R.1.C:=by rw[HRR.out];exact vL.2 (.inl rfl)
          exact HRNG.out _ hm
         refine⟨by rw[ei];exact rc,by rw[HN.out];exact ins_at c.C ⟨nd,pg,kU e⟩,?_,?_,?_,rrng,?_,?_,fun x hx=>ak _ (ak _ (X1.out x hx)),fun x hx=> ?_,fun x hx=> ?_,X4.out,fun y hy=> ?_,ak _ (ak _ X0.out),fun t=> ?_,((LR3.out.go B35.out).go b).keep kk (by simpa using npc)⟩
         ·rw[yh (by rw[lA];exact hNi)];simp
         ·show oQ (kU e)<(kU e).length
          rw[xC,nl];exact rZ e1 e2
         ·show(kU e).length≤64
          rw[nl];exact r64
         ·rw[HRR.out]
          have h0:lG (⟨nd,pg,kU e⟩:Sl).T=0:=f0;rw[h0];have h1:=Vp c.C ⟨nd,pg,kU e⟩ (oH ⟨nd,pg,kU e⟩ 0 true) rfl rfl;show _=((⟨L',(wC c.C ⟨nd,pg,kU e⟩).set j (oH ⟨nd,pg,kU e⟩ 0 true)⟩,0,vK e ⟨nd,pg,kU e⟩ 0):Ca×Nat×Ob);rw[show(wC c.C ⟨nd,pg,kU e⟩).set j (oH ⟨nd,pg,kU e⟩ 0 true)=wC c.C (oH ⟨nd,pg,kU e⟩ 0 true) from by rw[HN.out];exact h1];unfold vK;simp
         ·have k1:Keep (gN::Ez pc A) w W:=(KW.out.mono (fun s hs=>by simp at hs;subst hs;exact aG ..)).step bb
          exact k1.trans kk (fun x hx=>by simp at hx;subst hx;exact .inl (ak _ (aG ..)))
         ·rcases aB.1 hx with q|hx
          ·exact .inr om
          ·rcases aB.1 hx with q|hx
           ·exact .inr om
           ·exact X2.out x hx
         ·have:=kk.size;have:=b.size
          rcases aB.1 hx with q|hx
          ·omega
          ·rcases aB.1 hx with q|hx
           ·omega
           ·have:=X3.out x hx;omega
         ·have:=(BL A j (w3.heap.size+1+1,w3.heap.size+1)).mem_iff.1 hy
          simp at this;rcases this with q|q|q
          ·exact .inr om
          ·exact .inr om
          ·exact .inl q
         ·rcases aD.1 t with t|t
          ·rcases aB.1 t with t|t
           ·exact npc t
           ·have:=(BL A j (w3.heap.size+1+1,w3.heap.size+1)).mem_iff.1 t
            simp at this;rcases this with q|q|q
            ·omega
            ·omega
            ·exact NM3.out (av _ (ak _ q))
          ·exact NM3.out (aj _ t)
        have LA:Hid ((lW A).length=i):=by show _=_;rw[sj,HRC.out.b.len];exact EN.out.symm
        have LJ:Hid (((lW A).take j).length=j):=by show _=_;rw[bD,LA.out];omega
        have LD:Hid (((lW A).drop j).length=i-j):=by show _=_;rw[bY,LA.out]
        have o1:Hid (∀u∈(lW A).take j,u.oneCell'=true):=fun u hu=>BJ A u (fD hu)
        have o2:Hid (∀u∈(lW A).drop j,u.oneCell'=true):=fun u hu=>BJ A u (fV hu)
        have VN:qv=none∧i=0∧kv=0∨∃g,qv=some ⟨g,0,none⟩:=by
         rcases HRC.out.b.vn with r|⟨g',n',k',r⟩
         ·injection r with r1 r2 r3;exact .inl ⟨r1,by rw[EN.out];exact r2,r3⟩
         ·injection r with r1 _ _;exact .inr ⟨g',r1⟩
        have CEL:Hid (∀(x:Nat) (u:Value),(lW A)[x]?=some u→∃g,qv=some ⟨g,0,none⟩∧∀W,Below W5.heap.size W5 W→W.cell? ⟨g,0+x,none⟩=some u):=fun x u hx=>by
         have hxl:=(au.1 hx).1;rw[LA.out] at hxl;obtain⟨s,hs⟩: ∃s,c.C[x]?=some s:=⟨c.C[x]'(by rw[←EN.out];exact hxl),aA _⟩;obtain⟨p,g,hp,eq,hce⟩:=RW5.out x s hs;have:=BI hp;rw[hx] at this;obtain rfl:=aO this;exact⟨g,eq,fun W b=>by rw[bK];exact(hce W b).1⟩
        obtain⟨W7,hb7,eW7⟩: ∃W7:World,Below W5.heap.size W5 W7∧W7=wr.drewN nq:=⟨_,hb5.trans jY,rfl⟩;rw[←eW7];have S1:Hid (uP W7 qv ((lW A).take j)):=by
         rcases VN with⟨r,r2,_⟩|⟨g,r⟩
         ·subst r2
          have:(lW A).take j=[]:=List.eq_nil_of_length_eq_zero (by rw[LJ.out];omega);exact .inl ⟨r,this⟩
         ·refine .inr ⟨_,r,fun x u hx=> ?_⟩
          have hxj:x<j:=by have:=(au.1 hx).1;rw[LJ.out] at this;exact this
          rw[dH hxj] at hx;obtain⟨g',e1',e2'⟩:=CEL.out x u hx;rw[r] at e1';injection e1' with e1';injection e1' with e1';subst e1';rw[addr_add];exact e2' _ hb7
        obtain⟨a2,af,al,a0,a1,a3⟩:=KP.out _ hb7;have HB7:=ah hb7;have CK1:Hid (∀W,Below W5.heap.size W5 W→W.cell? ⟨pc,2,none⟩=some (.slice qv i kv)∧W.frozen? ⟨pc,2,none⟩=false∧pc<W.heap.size):=fun W b=>⟨(KP.out _ b).1,(KP.out _ b).2.1,(KP.out _ b).2.2.1⟩
        clear hb7 eW7 t2 tf tl u0 u1 ul STOP KP;rcases VN with⟨rfl,hi0,hk0⟩|⟨g,rfl⟩;case' inl=>
         first
         |(exfalso;omega)
         |(subst hk0
           have hj00:j=0:=om;have S2:Hid (∀w9,Below W5.heap.size W5 w9→uP w9 (none) ((lW A).drop j)):=fun w9 b9=>.inl ⟨rfl,List.eq_nil_of_length_eq_zero (by rw[LD.out];omega)⟩
           have E9:Hid (((lW A).take j++[Value.pointer (some ⟨w3.heap.size+1+1,0,none⟩)]).length=1):=by show _=_;rw[aW,LJ.out];(first|rfl|(simp;omega))
           have NW:Hid (∀w8:World,uP (w8.alloc (.cells #[.pointer (some ⟨w3.heap.size+1+1,0,none⟩)] 222)) (some ⟨w8.heap.size,0,none⟩) [.pointer (some ⟨w3.heap.size+1+1,0,none⟩)]):=fun w8=>qQ _ _ _
           go_wp2_with (first
            |(at_builtin;refine lM Aj (base:=W5.heap.size) (v:=.slice none 0 0) (us:=[]) (ms:=(lW A).take j) (p:=none) rf (.tmp 169) (.tmp 175) rf rf 0 0 rf rfl (by rw[LJ.out];omega) (aT _ _ _ _) S1.out o1.out om HB7.out.size ?_;intro q3 k3 w8 hown3 hg3 AB;have b8:Below W5.heap.size W5 w8:=HB7.out.grown hg3 HB7.out.size (fun r hr=>by cases hr);rw[bK] at hown3 AB;rw[dx] at hown3;have HO8:=ah hown3;have HB8:=ah b8;have z8:=b8.size;clear hown3 hg3 AB b8)
            |(at_builtin;refine lM Aj (base:=W5.heap.size) (v:=.slice q3 0 k3) (us:=(lW A).take j) (ms:=[.pointer (some ⟨w3.heap.size+1+1,0,none⟩)]) (p:=some ⟨w8.heap.size,0,none⟩) rf (.tmp 177) (.tmp 179) rf rf 0 1 rf (by rw[LJ.out];omega) rfl (HO8.out.alloc _) (NW.out _) (by intro u hu;simp at hu;subst hu;rfl) om (by simp;omega) ?_;intro q4 k4 w9 kV hg4 Jf;have b9:Below W5.heap.size W5 w9:=(HB8.out.alloc z8 _).grown hg4 (by simp;omega) (fun r hr=>(HO8.out.lt r hr).1);rw[bK] at kV Jf;have HO9:=ah kV;have HB9:=ah b9;have z9:=b9.size;have a29:=(CK1.out _ b9).1;have af9:=(CK1.out _ b9).2.1;have al9:=(CK1.out _ b9).2.2;clear kV hg4 Jf b9)
            |(at_builtin;go_loud (refine lM Aj (base:=W5.heap.size) (v:=.slice q4 1 k4) (us:=(lW A).take j++[.pointer (some ⟨w3.heap.size+1+1,0,none⟩)]) (ms:=(lW A).drop j) (p:=none) rf (.tmp 182) (.tmp 188) rf rf 1 0 rf E9.out (by rw[LD.out];omega) HO9.out (S2.out _ HB9.out) o2.out om z9 ?_);intro q5 k5 w10 hown5 hg5 hob5;have b10:Below W5.heap.size W5 w10:=HB9.out.grown hg5 z9 (fun r hr=>(HO9.out.lt r hr).1);have x2:=(CK1.out _ b10).1;have xf:=(CK1.out _ b10).2.1;have xl:=(CK1.out _ b10).2.2;have Wm:=ah hown5;have Wn:=ah b10;clear hown5 hg5 hob5 b10))
           obtain⟨wt,hwt⟩:=eY (w10.setCell ⟨pc,2,none⟩ (.slice q5 1 k5));have TS:=MKT.out w10 wt q5 k5 Wn.out (by rw[show j+1+(i-j)=1 from om];exact Wm.out) (by rw[show j+1+(i-j)=1 from om];exact hwt);rw[←hwt];obtain⟨Xt,hXt⟩:=eY (((w3.heap.size+1+1)::(w3.heap.size+1)::X'));obtain⟨At,hAt⟩:=eY ((A.take j++(w3.heap.size+1+1,w3.heap.size+1)::A.drop j));obtain⟨ct,hct⟩: ∃ct:Ca,ct=⟨L',wC c.C ⟨nd,pg,kU e⟩⟩:=⟨_,rfl⟩;obtain⟨s,hs⟩: ∃s:Sl,s=⟨nd,pg,kU e⟩:=⟨_,rfl⟩;obtain⟨p,hpp⟩: ∃p:Nat×Nat,p=(w3.heap.size+1+1,w3.heap.size+1):=⟨_,rfl⟩;obtain⟨m,hm⟩:=eY j;rw[←hXt,←hAt,←hct,←hpp] at TS;rw[←hs] at TS;rw[←hm] at TS;have TS:=ah TS;have ep1:w3.heap.size+1+1=p.1:=by rw[hpp]
           rw[ep1];clear x2 xf xl a29 af9 al9 a2 af al a0 a1 a3 hwt hXt hAt hct hs hpp hm MKT S1 S2 o1 o2 Wm Wn HO9 HB9 HO8 HB8 HB7 CEL LJ LD LA CK1 ep1 hNi RW5 RS5 HP5 B35 HRC NW E9)
        case' inr=>
         by_cases hkj:kv=j;case' pos=>
          first
          |(exfalso;omega)
          |(subst hji
            have S2:Hid (∀w9,Below W5.heap.size W5 w9→uP w9 (some ⟨g,0,none⟩) ((lW A).drop j)):=fun w9 b9=>.inr ⟨_,rfl,fun x u hx=>by have:=(au.1 hx).1;rw[LD.out] at this;omega⟩
            have E9:Hid (((lW A).take j++[Value.pointer (some ⟨w3.heap.size+1+1,0,none⟩)]).length=j+1):=by show _=_;rw[aW,LJ.out];(first|rfl|(simp;omega))
            have NW:Hid (∀w8:World,uP (w8.alloc (.cells #[.pointer (some ⟨w3.heap.size+1+1,0,none⟩)] 222)) (some ⟨w8.heap.size,0,none⟩) [.pointer (some ⟨w3.heap.size+1+1,0,none⟩)]):=fun w8=>qQ _ _ _
            go_wp2_with (first
             |(at_builtin;refine lM Aj (base:=W5.heap.size) (v:=.slice none 0 0) (us:=[]) (ms:=(lW A).take j) (p:=some ⟨g,0,none⟩) rf (.tmp 169) (.tmp 175) rf rf 0 j rf rfl LJ.out (aT _ _ _ _) S1.out o1.out om HB7.out.size ?_;intro q3 k3 w8 hown3 hg3 AB;have b8:Below W5.heap.size W5 w8:=HB7.out.grown hg3 HB7.out.size (fun r hr=>by cases hr);rw[bK] at hown3 AB;rw[dx] at hown3;have HO8:=ah hown3;have HB8:=ah b8;have z8:=b8.size;clear hown3 hg3 AB b8)
             |(at_builtin;refine lM Aj (base:=W5.heap.size) (v:=.slice q3 j k3) (us:=(lW A).take j) (ms:=[.pointer (some ⟨w3.heap.size+1+1,0,none⟩)]) (p:=some ⟨w8.heap.size,0,none⟩) rf (.tmp 177) (.tmp 179) rf rf j 1 rf LJ.out rfl (HO8.out.alloc _) (NW.out _) (by intro u hu;simp at hu;subst hu;rfl) om (by simp;omega) ?_;intro q4 k4 w9 kV hg4 Jf;have b9:Below W5.heap.size W5 w9:=(HB8.out.alloc z8 _).grown hg4 (by simp;omega) (fun r hr=>(HO8.out.lt r hr).1);skip;have HO9:=ah kV;have HB9:=ah b9;have z9:=b9.size;have a29:=(CK1.out _ b9).1;have af9:=(CK1.out _ b9).2.1;have al9:=(CK1.out _ b9).2.2;clear kV hg4 Jf b9)
             |(at_builtin;go_loud (refine lM Aj (base:=W5.heap.size) (v:=.slice q4 (j+1) k4) (us:=(lW A).take j++[.pointer (some ⟨w3.heap.size+1+1,0,none⟩)]) (ms:=(lW A).drop j) (p:=some ⟨g,0,none⟩) rf (.tmp 182) (.tmp 188) rf rf (j+1) 0 rf E9.out (by rw[LD.out];omega) HO9.out (S2.out _ HB9.out) o2.out om z9 ?_);intro q5 k5 w10 hown5 hg5 hob5;have b10:Below W5.heap.size W5 w10:=HB9.out.grown hg5 z9 (fun r hr=>(HO9.out.lt r hr).1);have x2:=(CK1.out _ b10).1;have xf:=(CK1.out _ b10).2.1;have xl:=(CK1.out _ b10).2.2;have Wm:=ah hown5;have Wn:=ah b10;clear hown5 hg5 hob5 b10))
            obtain⟨wt,hwt⟩:=eY (w10.setCell ⟨pc,2,none⟩ (.slice q5 (j+1) k5));have TS:=MKT.out w10 wt q5 k5 Wn.out (by rw[show j+1+(j-j)=j+1 from om];exact Wm.out) (by rw[show j+1+(j-j)=j+1 from om];exact hwt);rw[←hwt];obtain⟨Xt,hXt⟩:=eY (((w3.heap.size+1+1)::(w3.heap.size+1)::X'));obtain⟨At,hAt⟩:=eY ((A.take j++(w3.heap.size+1+1,w3.heap.size+1)::A.drop j));obtain⟨ct,hct⟩: ∃ct:Ca,ct=⟨L',wC c.C ⟨nd,pg,kU e⟩⟩:=⟨_,rfl⟩;obtain⟨s,hs⟩: ∃s:Sl,s=⟨nd,pg,kU e⟩:=⟨_,rfl⟩;obtain⟨p,hpp⟩: ∃p:Nat×Nat,p=(w3.heap.size+1+1,w3.heap.size+1):=⟨_,rfl⟩;obtain⟨m,hm⟩:=eY j;rw[←hXt,←hAt,←hct,←hpp] at TS;rw[←hs] at TS;rw[←hm] at TS;have TS:=ah TS;have ep1:w3.heap.size+1+1=p.1:=by rw[hpp]
            rw[ep1];clear x2 xf xl a29 af9 al9 a2 af al a0 a1 a3 hwt hXt hAt hct hs hpp hm MKT S1 S2 o1 o2 Wm Wn HO9 HB9 HO8 HB8 HB7 CEL LJ LD LA CK1 ep1 hNi RW5 RS5 HP5 B35 HRC NW E9)
         case' neg=>
          have hkj': ¬(kv-j=0):=om;by_cases hji2:j=i;case' pos=>
           first
           |exact absurd hji2 hji
           |(clear hji
             subst hji2;have S2:Hid (∀w9,Below W5.heap.size W5 w9→uP w9 (some ⟨g,j,none⟩) ((lW A).drop j)):=fun w9 b9=>.inr ⟨_,rfl,fun x u hx=>by
              rw[cO] at hx;obtain⟨g',e1',e2'⟩:=CEL.out _ u hx;injection e1' with e1';injection e1' with e1';subst e1';rw[addr_add];have:=e2' _ b9;rw[bK] at this;exact this⟩
             have E9:Hid (((lW A).take j++[Value.pointer (some ⟨w3.heap.size+1+1,0,none⟩)]).length=j+1):=by show _=_;rw[aW,LJ.out];(first|rfl|(simp;omega))
             have NW:Hid (∀w8:World,uP (w8.alloc (.cells #[.pointer (some ⟨w3.heap.size+1+1,0,none⟩)] 222)) (some ⟨w8.heap.size,0,none⟩) [.pointer (some ⟨w3.heap.size+1+1,0,none⟩)]):=fun w8=>qQ _ _ _
             go_wp2_with (first
              |(at_builtin;refine lM Aj (base:=W5.heap.size) (v:=.slice none 0 0) (us:=[]) (ms:=(lW A).take j) (p:=some ⟨g,0,none⟩) rf (.tmp 169) (.tmp 175) rf rf 0 j rf rfl LJ.out (aT _ _ _ _) S1.out o1.out om HB7.out.size ?_;intro q3 k3 w8 hown3 hg3 AB;have b8:Below W5.heap.size W5 w8:=HB7.out.grown hg3 HB7.out.size (fun r hr=>by cases hr);rw[bK] at hown3 AB;rw[dx] at hown3;have HO8:=ah hown3;have HB8:=ah b8;have z8:=b8.size;clear hown3 hg3 AB b8)
              |(at_builtin;refine lM Aj (base:=W5.heap.size) (v:=.slice q3 j k3) (us:=(lW A).take j) (ms:=[.pointer (some ⟨w3.heap.size+1+1,0,none⟩)]) (p:=some ⟨w8.heap.size,0,none⟩) rf (.tmp 177) (.tmp 179) rf rf j 1 rf LJ.out rfl (HO8.out.alloc _) (NW.out _) (by intro u hu;simp at hu;subst hu;rfl) om (by simp;omega) ?_;intro q4 k4 w9 kV hg4 Jf;have b9:Below W5.heap.size W5 w9:=(HB8.out.alloc z8 _).grown hg4 (by simp;omega) (fun r hr=>(HO8.out.lt r hr).1);skip;have HO9:=ah kV;have HB9:=ah b9;have z9:=b9.size;have a29:=(CK1.out _ b9).1;have af9:=(CK1.out _ b9).2.1;have al9:=(CK1.out _ b9).2.2;clear kV hg4 Jf b9)
              |(at_builtin;go_loud (refine lM Aj (base:=W5.heap.size) (v:=.slice q4 (j+1) k4) (us:=(lW A).take j++[.pointer (some ⟨w3.heap.size+1+1,0,none⟩)]) (ms:=(lW A).drop j) (p:=some ⟨g,j,none⟩) rf (.tmp 182) (.tmp 188) rf rf (j+1) 0 rf E9.out (by rw[LD.out];omega) HO9.out (S2.out _ HB9.out) o2.out om z9 ?_);intro q5 k5 w10 hown5 hg5 hob5;have b10:Below W5.heap.size W5 w10:=HB9.out.grown hg5 z9 (fun r hr=>(HO9.out.lt r hr).1);have x2:=(CK1.out _ b10).1;have xf:=(CK1.out _ b10).2.1;have xl:=(CK1.out _ b10).2.2;have Wm:=ah hown5;have Wn:=ah b10;clear hown5 hg5 hob5 b10))
             obtain⟨wt,hwt⟩:=eY (w10.setCell ⟨pc,2,none⟩ (.slice q5 (j+1) k5));have TS:=MKT.out w10 wt q5 k5 Wn.out (by rw[show j+1+(j-j)=j+1 from om];exact Wm.out) (by rw[show j+1+(j-j)=j+1 from om];exact hwt);rw[←hwt];obtain⟨Xt,hXt⟩:=eY (((w3.heap.size+1+1)::(w3.heap.size+1)::X'));obtain⟨At,hAt⟩:=eY ((A.take j++(w3.heap.size+1+1,w3.heap.size+1)::A.drop j));obtain⟨ct,hct⟩: ∃ct:Ca,ct=⟨L',wC c.C ⟨nd,pg,kU e⟩⟩:=⟨_,rfl⟩;obtain⟨s,hs⟩: ∃s:Sl,s=⟨nd,pg,kU e⟩:=⟨_,rfl⟩;obtain⟨p,hpp⟩: ∃p:Nat×Nat,p=(w3.heap.size+1+1,w3.heap.size+1):=⟨_,rfl⟩;obtain⟨m,hm⟩:=eY j;rw[←hXt,←hAt,←hct,←hpp] at TS;rw[←hs] at TS;rw[←hm] at TS;have TS:=ah TS;have ep1:w3.heap.size+1+1=p.1:=by rw[hpp]
             rw[ep1];clear x2 xf xl a29 af9 al9 a2 af al a0 a1 a3 hwt hXt hAt hct hs hpp hm MKT S1 S2 o1 o2 Wm Wn HO9 HB9 HO8 HB8 HB7 CEL LJ LD LA CK1 ep1 hNi RW5 RS5 HP5 B35 HRC NW E9)
          case' neg=>
           first
           |exact absurd hji hji2
           |(skip
             have S2:Hid (∀w9,Below W5.heap.size W5 w9→uP w9 (some ⟨g,j,none⟩) ((lW A).drop j)):=fun w9 b9=>.inr ⟨_,rfl,fun x u hx=>by
              rw[cO] at hx;obtain⟨g',e1',e2'⟩:=CEL.out _ u hx;injection e1' with e1';injection e1' with e1';subst e1';rw[addr_add];have:=e2' _ b9;rw[bK] at this;exact this⟩
             have E9:Hid (((lW A).take j++[Value.pointer (some ⟨w3.heap.size+1+1,0,none⟩)]).length=j+1):=by show _=_;rw[aW,LJ.out];(first|rfl|(simp;omega))
             have NW:Hid (∀w8:World,uP (w8.alloc (.cells #[.pointer (some ⟨w3.heap.size+1+1,0,none⟩)] 222)) (some ⟨w8.heap.size,0,none⟩) [.pointer (some ⟨w3.heap.size+1+1,0,none⟩)]):=fun w8=>qQ _ _ _
             go_wp2_with (first
              |(at_builtin;refine lM Aj (base:=W5.heap.size) (v:=.slice none 0 0) (us:=[]) (ms:=(lW A).take j) (p:=some ⟨g,0,none⟩) rf (.tmp 169) (.tmp 175) rf rf 0 j rf rfl LJ.out (aT _ _ _ _) S1.out o1.out om HB7.out.size ?_;intro q3 k3 w8 hown3 hg3 AB;have b8:Below W5.heap.size W5 w8:=HB7.out.grown hg3 HB7.out.size (fun r hr=>by cases hr);rw[bK] at hown3 AB;rw[dx] at hown3;have HO8:=ah hown3;have HB8:=ah b8;have z8:=b8.size;clear hown3 hg3 AB b8)
              |(at_builtin;refine lM Aj (base:=W5.heap.size) (v:=.slice q3 j k3) (us:=(lW A).take j) (ms:=[.pointer (some ⟨w3.heap.size+1+1,0,none⟩)]) (p:=some ⟨w8.heap.size,0,none⟩) rf (.tmp 177) (.tmp 179) rf rf j 1 rf LJ.out rfl (HO8.out.alloc _) (NW.out _) (by intro u hu;simp at hu;subst hu;rfl) om (by simp;omega) ?_;intro q4 k4 w9 kV hg4 Jf;have b9:Below W5.heap.size W5 w9:=(HB8.out.alloc z8 _).grown hg4 (by simp;omega) (fun r hr=>(HO8.out.lt r hr).1);skip;have HO9:=ah kV;have HB9:=ah b9;have z9:=b9.size;have a29:=(CK1.out _ b9).1;have af9:=(CK1.out _ b9).2.1;have al9:=(CK1.out _ b9).2.2;clear kV hg4 Jf b9)
              |(at_builtin;go_loud (refine lM Aj (base:=W5.heap.size) (v:=.slice q4 (j+1) k4) (us:=(lW A).take j++[.pointer (some ⟨w3.heap.size+1+1,0,none⟩)]) (ms:=(lW A).drop j) (p:=some ⟨g,j,none⟩) rf (.tmp 182) (.tmp 188) rf rf (j+1) (i-j) rf E9.out LD.out HO9.out (S2.out _ HB9.out) o2.out om z9 ?_);intro q5 k5 w10 hown5 hg5 hob5;have b10:Below W5.heap.size W5 w10:=HB9.out.grown hg5 z9 (fun r hr=>(HO9.out.lt r hr).1);have x2:=(CK1.out _ b10).1;have xf:=(CK1.out _ b10).2.1;have xl:=(CK1.out _ b10).2.2;have Wm:=ah hown5;have Wn:=ah b10;clear hown5 hg5 hob5 b10))
             obtain⟨wt,hwt⟩:=eY (w10.setCell ⟨pc,2,none⟩ (.slice q5 (j+1+(i-j)) k5));have TS:=MKT.out w10 wt q5 k5 Wn.out (by rw[show j+1+(i-j)=j+1+(i-j) from rfl];exact Wm.out) (by rw[show j+1+(i-j)=j+1+(i-j) from rfl];exact hwt);rw[←hwt];obtain⟨Xt,hXt⟩:=eY (((w3.heap.size+1+1)::(w3.heap.size+1)::X'));obtain⟨At,hAt⟩:=eY ((A.take j++(w3.heap.size+1+1,w3.heap.size+1)::A.drop j));obtain⟨ct,hct⟩: ∃ct:Ca,ct=⟨L',wC c.C ⟨nd,pg,kU e⟩⟩:=⟨_,rfl⟩;obtain⟨s,hs⟩: ∃s:Sl,s=⟨nd,pg,kU e⟩:=⟨_,rfl⟩;obtain⟨p,hpp⟩: ∃p:Nat×Nat,p=(w3.heap.size+1+1,w3.heap.size+1):=⟨_,rfl⟩;obtain⟨m,hm⟩:=eY j;rw[←hXt,←hAt,←hct,←hpp] at TS;rw[←hs] at TS;rw[←hm] at TS;have TS:=ah TS;have ep1:w3.heap.size+1+1=p.1:=by rw[hpp]
             rw[ep1];clear x2 xf xl a29 af9 al9 a2 af al a0 a1 a3 hwt hXt hAt hct hs hpp hm MKT S1 S2 o1 o2 Wm Wn HO9 HB9 HO8 HB8 HB7 CEL LJ LD LA CK1 ep1 hNi RW5 RS5 HP5 B35 HRC NW E9)
        all_goals
         obtain⟨f1,f2,f3⟩:=mX TS.out.hm;have SLB:=TS.out.rc.b.sl m p s TS.out.hp TS.out.hs;obtain⟨d0,d1,_,d3,dl,dl2⟩:=SLB.cells;obtain⟨k,hk⟩:=eY (lG s.T);have HK:=ah hk;have F3:Hid (∀j,j<k→s.T[j]?=some true):=by rw[hk];exact f3
         rw[←hk] at f1 f2;have l64:=TS.out.hl;have HSB:=ah SLB.2;have fz:wt.frozen? ⟨p.2,k,none⟩=false:=SLB.2.f k (by rw[qF];omega);have ck:wt.cell? ⟨p.2,k,none⟩=some (.bool false):=SLB.2.c k _ (oq f2);obtain⟨g0,g1⟩:=TS.out.pg;have ke0:(0:Int)≤(k:Int)*(e:Int):=fO om om;have ke1:(k:Int)*(e:Int)≤4096:=by
          have:=eP (show k≤64 by omega) e2;have h2:((k*e:Nat):Int)≤((64*64:Nat):Int):=om;simpa using h2
         have ro:obV R.2.2= .agg #[.int .i64 s.nd,.int .i64 (s.pg*64+(k:Int)*(e:Int))]:=by rw[TS.out.rr,←HK.out];rfl
         have RO:=ah ro;clear hk f2 ro f3 SLB;obtain⟨l,hll⟩:=eY s.T.length;have HLL:=ah hll;rw[←hll] at d3 f1 l64;clear hll;go_wp2_with fail;go_loopw [17] (fun kvv wr=>∃j:Nat,j≤k∧kvv= .int .i64 j∧wr=wt) (fun kvv _=>k-(intOf kvv).toNat);case atStart=>exact⟨0,bq _,by go_num,rfl⟩
         case round=>
          obtain⟨j,hj,rfl,rfl⟩:=hrel;by_cases hjk:j<k
          ·have cj:=HSB.out.c j _ (oq (F3.out j hjk))
           have hjl:(j:Int)<(l:Int):=om;have hj0:(0:Int)≤(j:Int):=om;go_wp2;go_round
           case rel=>exact⟨j+1,om,by go_num,trivial⟩
           case measure=>simp[intOf];omega
          ·obtain rfl:j=k:=by omega
           have hjl:(j:Int)<(l:Int):=om;have hj0:(0:Int)≤(j:Int):=om;have hw1:IntKind.i64.wrap (s.pg*64)=s.pg*64:=aY _ om;have hw2:IntKind.i64.wrap ((j:Int)*(e:Int))=(j:Int)*(e:Int):=aY _ om;have hw3:IntKind.i64.wrap (s.pg*64+(j:Int)*(e:Int))=s.pg*64+(j:Int)*(e:Int):=aY _ om;go_wp2_with fail;obtain⟨W,hW⟩:=eY (wr.setCell ⟨p.2,j,none⟩ (.bool true));rw[←hW];have hW':=ah (show W=wr.setCell ⟨p.2,lG s.T,none⟩ (.bool true) by rw[←HK.out];exact hW);have RW:=TS.out.rc.use TS.out.hp TS.out.hs (k:=j) true (by rw[←HLL.out];exact f1);rw[←hW] at RW;have SP:=RW.b.sl m p (oH s j true) TS.out.hp (by rw[aZ (au.1 TS.out.hs).1]);obtain⟨a0,a1,_,_,al,_⟩:=SP.cells;have LC:=RW.b.c;have q1:=LC.gC 1;have ql:=LC.lt;have kp:Keep [p.2] wr W:=by rw[hW];exact(Keep.refl _ _).setCell (p:=⟨p.2,j,none⟩) (.inl sI) _
           have LRW:jR W w.heap.size [.int .i64 0,.int .i64 0]:=TS.out.lr.keep kp (fun q=>TS.out.t2 (av _ (ak _ (bL.1 q▸(Dl TS.out.hp).2))));have v0:=LRW.gC 0;have v1':=LRW.gC 1;have vf0:=LRW.f 0 sI;have vf1:=LRW.f 1 sI;have vl:=LRW.lt;have n0:=LRW.mP.gC 0;have n1:=LRW.mP.gC 1;have nf0:=LRW.mP.f 0 sI;have nf1:=LRW.mP.f 1 sI;have HRW:=ah (LRW.lq (.int .i64 s.nd) (.int .i64 (s.pg*64+(j:Int)*(e:Int))));have HRX:=ah (LRW.store 0 (.int .i64 s.nd) sI);clear d0 d1 d3 ck fz hW SP LC LRW RW kp;simp only[oH] at a0 a1;refine lJ 20 kR kR ?_;simp only[aQ,aV,aP,aU];repeat still_step
           refine wpStill_nil ?_;go_wp2;have x0:=HRW.out.gC 0;have x1:=HRW.out.gC 1;have y0:=HRX.out.gC 0;refine bodyPost_ret (v:=.tuple #[.agg #[.int .i64 s.nd,.int .i64 (s.pg*64+(j:Int)*(e:Int))],.int .i64 0]) ?_ rfl ?_
           ·simp[x0,x1,y0,results,Tryz.results76,go_sem]
           ·rw[←RO.out]
            exact TS.out.fin hW'.out (((Keep.refl _ _).setCell (p:=⟨w.heap.size,0,none⟩) (.inl sI) _).setCell (p:=⟨w.heap.size,1,none⟩) (.inl sI) _).drew
theorem Tm (v1:Int) (u:Bool) (h:RC X w pc pm gN e mn lw hi O M v A c) (hI:uR e c) (hX: ∀x∈X,x<w.heap.size):
 Calls prog 76 #[.pointer (some ⟨pc,0,none⟩),.int .i64 v1,.bool u] w (vM X pc pm gN e mn lw hi O M A w (takeC mn O e c v1 u)):=by
 by_cases hv:v1<0∨(c.L.length:Int)≤v1
 ·exact Tk v1 u h hX hv
 ·obtain⟨n,rfl⟩: ∃n:Nat,v1=n:=⟨v1.toNat,om⟩
  exact JR n u h hI hX om
end
