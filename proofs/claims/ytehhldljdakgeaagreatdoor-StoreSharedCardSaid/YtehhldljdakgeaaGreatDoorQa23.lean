/- Lemmas and contracts for the claim's last text: RCTaken, AsC, RD, DZ, RDTake, Env. -/
import Derived.Test.YtehhldljdakgeaaGreatDoorQa01
import Derived.Test.YtehhldljdakgeaaGreatDoorQa21
set_option linter.unusedSimpArgs false
set_option linter.unusedVariables false
set_option maxHeartbeats 16000000
set_option maxRecDepth 100000
namespace Go.Proofs.YtehhldljdakgeaaGreatDoor
open Go.RowKit Go.Maps
attribute [local go_sem ↓] aJ aK
section
variable {X Y S M:List Nat} {w w':World} {pc pm gN e:Nat} {mn lw hi:Int} {O:List (List Int)} {v v':Value} {A A':SA} {C:List Sl} {c:Ca} {L':List Nd}
theorem FY (h:RC X w pc pm gN e mn lw hi O M v A c) (hI:tq e c):
 Calls Tryz.prog 97 #[.pointer (some ⟨pc,0,none⟩)] w fun r w'=>∃v,r= .returned v∧OwnO w w' v (oM e c.C):=by
 obtain⟨q,kv,ev,kv1,kv2,hrow⟩:=h.b.form;subst ev;have e1:=hI.e1;have e2:=hI.e2;have few:=hI.few;have HIN:=ah hI;have Bq:=ah hrow;have HC:=ah h.b;have HL64:Hid (∀s∈c.C,s.T.length≤64):=fun s hs=>by rw[hI.len s hs];unfold jR;exact dN _ _
 have ALL:Hid (c.C.take c.C.length=c.C):=by show _=_;simp
 obtain⟨nn,hnn⟩:=eY c.C.length;have EN:=ah hnn;have OL:Hid (∀i,i≤nn→(oM e (c.C.take i)).length≤65536):=fun i hi=>by
  have:=DX (e:=e) (C:=c.C.take i) fun s hs=>HL64.out s (eZ hs)
  rw[bC] at this;omega
 rw[←hnn] at few kv1 ALL;unfold maxLen at kv2;have KC:Hid (∀W,Below w.heap.size w W→W.cell? ⟨pc,1,none⟩=some (.int .i64 e)∧W.cell? ⟨pc,2,none⟩=some (.slice q nn kv)∧pc<W.heap.size):=fun W b=>by
  have t:=h.b.c.go b;rw[hnn];exact⟨t.gC 1,t.gC 2,t.lt⟩
 clear h hI hrow hnn;go_enter Tryz.func97,Tryz.ntmps97;go_wp2_with fail;go_loopw [3,4] (fun ov iv wr=>∃(i:Nat),i≤nn∧iv= .int .i64 i∧Hid (wr.ownsRow w.heap.size 40 2 ov (oM e (c.C.take i)).length (kG (oM e (c.C.take i))))∧Below w.heap.size w wr) (fun _ iv _=>nn-(intOf iv).toNat);case atStart=>exact⟨0,om,by go_num,aT _ _ _ _,aO _ _⟩
 case round=>
  obtain⟨i,hile,rfl,HO,hbel⟩:=hrel;obtain⟨c1,c2,cl⟩:=KC.out _ hbel;by_cases hin:i<nn
  ·obtain⟨s,hs⟩: ∃s,c.C[i]?=some s:=⟨c.C[i]'(by rw[←EN.out];exact hin),aA _⟩
   obtain⟨p,hp,hsl⟩:=HC.out.at hs;obtain⟨g,of,rfl,hg,hc0⟩:=Bq.out i p hp;have hik:i<kv:=om;have hsm:=aF hs;obtain⟨_,_,r3,r4⟩:=HIN.out.rng hsm;have l64:=HL64.out s hsm;have OLi:=OL.out i hile;have SN:=ah (FH (e:=e) hs);have HKA:=ah (DV e s);obtain⟨l,hll⟩:=eY s.T.length;have HLL:=ah hll;rw[←hll] at l64 HKA;have hli:(i:Int)<(nn:Int):=om;have hl0:(0:Int)≤(i:Int):=om;have SK:Hid (∀W,Below w.heap.size w W→W.cell? ⟨g,of+i,none⟩=some (.pointer (some ⟨p.1,0,none⟩))∧g<W.heap.size∧W.cell? ⟨p.1,0,none⟩=some (.int .i64 s.nd)∧W.cell? ⟨p.1,1,none⟩=some (.int .i64 s.pg)∧W.cell? ⟨p.1,3,none⟩=some (.slice (some ⟨p.2,0,none⟩) l l)∧p.1<W.heap.size∧p.2<W.heap.size∧jD W p.2 (bools s.T)):=fun W b=>by
    have t:=hsl.below b;obtain⟨d0,d1,d2,d3,dl,dl2⟩:=t.cells;rw[hll];exact⟨(b.cell (p:=⟨g,of+i,none⟩) hg).trans hc0,aC hg b.size,d0,d1,d3,dl,dl2,t.2⟩
   have HBR:=ah hbel;clear hc0 hsl hs hp hsm hll hbel hg;go_wp2_with fail;clear c1 c2 cl;go_loopw [3,5] (fun ov kv wi=>∃(k:Nat),k≤l∧kv= .int .i64 k∧Hid (wi.ownsRow w.heap.size 40 2 ov ((oM e (c.C.take i)).length+(Ii e s k).length) (kG (oM e (c.C.take i)++Ii e s k)))∧Below w.heap.size w wi) (fun _ kv _=>l-(intOf kv).toNat);case atStart=>exact⟨0,om,by go_num,(show wr.ownsRow _ _ _ _ _ _ from by have:=HO.out;simpa[Ii] using this),HBR.out⟩
   case round=>
    obtain⟨k,hkl,rfl,HOk,hbk⟩:=hrel;obtain⟨c1,c2,cl⟩:=KC.out _ hbk;obtain⟨ck,gl,y0,y1,y3,yl,yl2,yb⟩:=SK.out _ hbk;have HYB:=ah yb;clear yb HBR;by_cases hlt:k<l
    ·obtain⟨bt,hbt⟩: ∃bt,s.T[k]?=some bt:=⟨s.T[k]'(by rw[←HLL.out];exact hlt),aA _⟩
     have ct:=HYB.out.c k _ (mY hbt);have hlk:(k:Int)<(l:Int):=om;have hl0k:(0:Int)≤(k:Int):=om;cases bt with
     |false=>
      have KN:=ah (Ub (e:=e) hbt);clear hbt;go_wp2;go_round
      case rel=>exact⟨k+1,om,by go_num,by rw[KN.out];exact HOk,hbk⟩
      case measure=>simp[intOf];omega
     |true=>
      have KN:=ah (Od (e:=e) hbt);have ke0:(0:Int)≤(k:Int)*(e:Int):=fG om om;have ke1:(k:Int)*(e:Int)≤4096:=by
       have:=eB (show k≤64 by omega) e2;have h2:((k*e:Nat):Int)≤((64*64:Nat):Int):=om;simpa using h2
      have OLK:=DW e s k;have HB2:=ah hbk;have hw1:IntKind.i64.wrap (s.pg*64)=s.pg*64:=bB _ om;have hw2:IntKind.i64.wrap ((k:Int)*(e:Int))=(k:Int)*(e:Int):=bB _ om;have hw3:IntKind.i64.wrap (s.pg*64+(k:Int)*(e:Int))=s.pg*64+(k:Int)*(e:Int):=bB _ om;clear hbt;go_wp2_with fail;refine jN (S:=(fun w'=>w'.cell? ⟨p.1,0,none⟩=some (.int .i64 s.nd)∧w'.cell? ⟨p.1,1,none⟩=some (.int .i64 s.pg)∧w'.cell? ⟨pc,1,none⟩=some (.int .i64 e)∧w'.cell? ⟨pc,2,none⟩=some (.slice (some ⟨g,of,none⟩) nn kv)∧w'.cell? ⟨g,of+i,none⟩=some (.pointer (some ⟨p.1,0,none⟩)))) 35 #[false,false,false,false,false,false,false,false,false,false,false,false,false,false,false,false,false,false,false,false,false,false,false,false,false,false,false,false,false,false,false,false,false,false,false] rfl kR kR (by(try dsimp only);go_keep) (fun hHeld=> ?_);simp only[aQ,aW];refine tk 0 ?_;try simp only[Act.put,pA,pZ,pS]
      refine tk 1 ?_;try simp only[Act.put,pA,pZ,pS]
      refine tk 2 ?_;try simp only[Act.put,pA,pZ,pS]
      refine tk 3 ?_;try simp only[Act.put,pA,pZ,pS]
      refine tk 4 ?_;try simp only[Act.put,pA,pZ,pS]
      refine tk 5 ?_;try simp only[Act.put,pA,pZ,pS]
      refine tk 6 ?_;try simp only[Act.put,pA,pZ,pS]
      refine tk 7 ?_;try simp only[Act.put,pA,pZ,pS]
      refine tk 8 ?_;try simp only[Act.put,pA,pZ,pS]
      refine tk 9 ?_;try simp only[Act.put,pA,pZ,pS]
      refine tk 10 ?_;try simp only[Act.put,pA,pZ,pS]
      refine tk 11 ?_;try simp only[Act.put,pA,pZ,pS]
      refine tk 12 ?_;try simp only[Act.put,pA,pZ,pS]
      refine tk 13 ?_;try simp only[Act.put,pA,pZ,pS]
      refine tk 14 ?_;try simp only[Act.put,pA,pZ,pS]
      refine tk 15 ?_;try simp only[Act.put,pA,pZ,pS]
      refine tk 16 ?_;try simp only[Act.put,pA,pZ,pS]
      refine tk 17 ?_;try simp only[Act.put,pA,pZ,pS]
      refine tk 18 ?_;try simp only[Act.put,pA,pZ,pS]
      refine tk 19 ?_;try simp only[Act.put,pA,pZ,pS]
      refine tk 20 ?_;try simp only[Act.put,pA,pZ,pS]
      refine tk 21 ?_;try simp only[Act.put,pA,pZ,pS]
      refine tk 22 ?_;try simp only[Act.put,pA,pZ,pS]
      refine tk 23 ?_;try simp only[Act.put,pA,pZ,pS]
      refine tk 24 ?_;try simp only[Act.put,pA,pZ,pS]
      refine tk 25 ?_;try simp only[Act.put,pA,pZ,pS]
      refine tk 26 ?_;try simp only[Act.put,pA,pZ,pS]
      refine tk 27 ?_;try simp only[Act.put,pA,pZ,pS]
      refine tk 28 ?_;try simp only[Act.put,pA,pZ,pS]
      refine tk 29 ?_;try simp only[Act.put,pA,pZ,pS]
      refine tk 30 ?_;try simp only[Act.put,pA,pZ,pS]
      refine tk 31 ?_;try simp only[Act.put,pA,pZ,pS]
      refine tk 32 ?_;try simp only[Act.put,pA,pZ,pS]
      refine wpAnyH_ready (rs:=[33]) kR sI ?_;refine aR (jH rfl) (fun K hK=> ?_) aX;go_simp
      refine hK.out _ _ (by(try dsimp only);go_keep) (fun hHeld=> ?_);clear hK K;try simp only[Act.put,pA,pZ,pS]
      refine wpAnyH_ready (rs:=[34]) kR sI ?_;refine aR (jH rfl) (fun K hK=> ?_) aX;refine FE rY (base:=w.heap.size) (ms:=[.int .i64 s.nd,.int .i64 (s.pg*64+(k:Int)*(e:Int))]) rf (.tmp 43) (.tmp 76) rf rf rf ((HOk.out.alloc _).drew) rfl (fun j u hj=>nJ wr _ _ _ j u hj) (nK _ _) om (by have:=HB2.out.size;simp;omega) ?_;intro q4 k4 w4 jV hg4;have hb4:Below w.heap.size w w4:=(HB2.out.alloc (by have:=HB2.out.size;simpa using this) _).drew.grown hg4 (by have:=HB2.out.size;simp;omega) (fun r hr=>(HOk.out.lt r hr).1);obtain⟨zk,zg,z0,z1,z3,zl,zl2,_⟩:=SK.out _ hb4;obtain⟨zp,zp2,zpl⟩:=KC.out _ hb4;refine hK.out _ _ (by(try dsimp only);go_keep) (fun hHeld=> ?_);clear hK K;try simp only[Act.put,pA,pZ,pS]
      refine wpAnyH_done kR ?_ _;simp only[nX,aP,aU];go_wp2;go_round
      case rel=>
       refine⟨k+1,om,by go_num,?_,hb4⟩;show World.ownsRow _ _ _ _ _ _ _;rw[KN.out,aV,←Nat.add_assoc,←bS,l8];exact jV
      case measure=>simp[intOf];omega
    ·obtain rfl:k=l:=by omega
     go_wp2;go_round
     case rel=>
      refine⟨i+1,om,by go_num,?_,hbk⟩;show World.ownsRow _ _ _ _ _ _ _;have:=HOk.out;rw[HKA.out,←aV,←SN.out] at this;exact this
     case measure=>simp[intOf];omega
  ·obtain rfl:i=nn:=by omega
   have HO':=HO.out;rw[ALL.out] at HO';have HOO:=ah HO';clear HO HO';go_wp2;go_ret;exact⟨_,rfl,HOO.out,hbel⟩
end
def RdO (w:World) (v:Value) (l:List Ob):Prop:=∃q k,v= .slice q l.length k∧l.length≤k∧k≤maxLen∧∀(j:Nat) (o:Ob),l[j]?=some o→∃g off,q=some ⟨g,off,none⟩∧g<w.heap.size∧w.cell? ⟨g,off+j*2,none⟩=some (.int .i64 o.1)∧w.cell? ⟨g,off+j*2+1,none⟩=some (.int .i64 o.2)
def RdP (w:World) (v:Value) (l:List Pl):Prop:=∃q k,v= .slice q l.length k∧l.length≤k∧k≤maxLen∧∀(j:Nat) (o:Pl),l[j]?=some o→∃g off,q=some ⟨g,off,none⟩∧g<w.heap.size∧w.cell? ⟨g,off+j*3,none⟩=some (.int .i64 o.1)∧w.cell? ⟨g,off+j*3+1,none⟩=some (.int .i64 o.2.1)∧w.cell? ⟨g,off+j*3+2,none⟩=some (.int .i64 o.2.2)
section
variable {X Y S M:List Nat} {w w':World} {B pc pz pcm pm gN e:Nat} {mn lw hi:Int} {O:List (List Int)} {v v' vs:Value} {A A' As:SA} {C:List Sl} {c:Ca} {L':List Nd}
end
structure RDB (X:List Nat) (w:World) (pd pc gh:Nat) (V:HV) (vp:Value) (U:List Value) (H:List Hd) (P:List (List Ob)):Prop where
 d:jD w pd [.pointer (some ⟨pc,0,none⟩),.slice (some ⟨gh,0,none⟩) H.length H.length,vp]
 hs:jD w gh (l6 V)
 hl:V.length=H.length
 ho: ∀(i:Nat) (p:Value×Value) (h:Hd),V[i]?=some p→H[i]?=some h→lG X w p.1 h.1∧lG X w p.2 h.2
 row:nC X w vp U
 ul:U.length=P.length
 po: ∀(i:Nat) (u:Value) (m:List Ob),U[i]?=some u→P[i]?=some m→lG X w u m
 mem:pd∈X∧gh∈X
 ne:pd≠gh
structure RD (X:List Nat) (w:World) (pd gh pc pm gN e:Nat) (mn lw hi:Int) (O:List (List Int)) (M:List Nat) (v:Value) (A:SA) (V:HV) (vp:Value) (U:List Value) (d:De):Prop where
 c:RC X w pc pm gN e mn lw hi O M v A d.c
 b:RDB X w pd pc gh V vp U d.H d.P
 ne:pd∉rcs pc pm gN A M∧gh∉rcs pc pm gN A M
def rds (pd gh pc pm gN:Nat) (A:SA) (M:List Nat):List Nat:=pd::gh::rcs pc pm gN A M
section
variable {X Y S M M' F G:List Nat} {w w' w0:World} {ev:Nat→Addr} {pd gh pc pm gN e:Nat} {mn lw hi:Int} {O:List (List Int)} {v v' vp vp':Value} {A A':SA} {V V':HV} {U U':List Value} {d d':De} {H:List Hd} {P P':List (List Ob)} {c c':Ca}
theorem RDB.keep (h:RDB X w pd pc gh V vp U H P) (k:Keep S w w') (hs: ∀s∈S,s≠pd∧s≠gh∧(s∈X∨w.heap.size≤s)):RDB X w' pd pc gh V vp U H P:=
 ⟨h.d.keep k (fun q=>(hs _ q).1 rfl),h.hs.keep k (fun q=>(hs _ q).2.1 rfl),h.hl,fun i p g hp hg=>⟨(h.ho i p g hp hg).1.keep k fun s q=>(hs s q).2.2,(h.ho i p g hp hg).2.keep k fun s q=>(hs s q).2.2⟩,
  h.row.keep k (fun s q=>(hs s q).2.2),h.ul,fun i u m hu hm=>(h.po i u m hu hm).keep k fun s q=>(hs s q).2.2,h.mem,h.ne⟩
theorem RDB.more (h:RDB X w pd pc gh V vp U H P) (hX: ∀x∈X,x∈Y) (hY: ∀y∈Y,y∈X∨w.heap.size≤y):RDB Y w pd pc gh V vp U H P:=
 ⟨h.d,h.hs,h.hl,fun i p g hp hg=>⟨(h.ho i p g hp hg).1.more hY,(h.ho i p g hp hg).2.more hY⟩,h.row.more hY,h.ul,fun i u m hu hm=>(h.po i u m hu hm).more hY,⟨hX _ h.mem.1,hX _ h.mem.2⟩,h.ne⟩
theorem RD.mem (h:RD X w pd gh pc pm gN e mn lw hi O M v A V vp U d): ∀y∈rds pd gh pc pm gN A M,y∈X:=fun y hy=>by
 rcases aB.1 hy with rfl|q
 ·exact h.b.mem.1
 ·rcases aB.1 q with rfl|q
  ·exact h.b.mem.2
  ·exact h.c.mem y q
theorem RD.lt (h:RD X w pd gh pc pm gN e mn lw hi O M v A V vp U d): ∀y∈rds pd gh pc pm gN A M,y<w.heap.size:=fun y hy=>by
 rcases aB.1 hy with rfl|q
 ·exact h.b.d.lt
 ·rcases aB.1 q with rfl|q
  ·exact h.b.hs.lt
  ·exact h.c.lt y q
theorem RD.keep (h:RD X w pd gh pc pm gN e mn lw hi O M v A V vp U d) (k:Keep S w w') (hs: ∀s∈S,(s∈X∧s∉rds pd gh pc pm gN A M)∨w.heap.size≤s):RD X w' pd gh pc pm gN e mn lw hi O M v A V vp U d:=
 ⟨h.c.keep k (fun s q=>(hs s q).imp (fun r=>⟨r.1,fun t=>r.2 (ak _ (ak _ t))⟩) id),
  h.b.keep k (fun s q=>by
   have l1:=h.b.d.lt;have l2:=h.b.hs.lt;rcases hs s q with r|r
   ·exact⟨fun t=>r.2 (t▸aG ..),fun t=>r.2 (t▸ak _ (aG ..)),.inl r.1⟩
   ·exact⟨fun t=>om,fun t=>om,.inr r⟩),h.ne⟩
theorem RD.below (h:RD X w pd gh pc pm gN e mn lw hi O M v A V vp U d) (k:Below w.heap.size w w'):RD X w' pd gh pc pm gN e mn lw hi O M v A V vp U d:=h.keep (Keep.of (S:=[]) k) (fun _ q=>by cases q)
theorem RD.more (h:RD X w pd gh pc pm gN e mn lw hi O M v A V vp U d) (hX: ∀x∈X,x∈Y) (hY: ∀y∈Y,y∈X∨w.heap.size≤y):RD Y w pd gh pc pm gN e mn lw hi O M v A V vp U d:=
 ⟨h.c.more hX hY,h.b.more hX hY,h.ne⟩
theorem RD.cache (h:RD X w pd gh pc pm gN e mn lw hi O M v A V vp U d) (hr:RC Y w' pc pm gN e mn lw hi O M' v' A' c') (h1: ∀x∈X,x∈Y) (h2: ∀x∈Y,x∈X∨w.heap.size≤x) (h4: ∀y∈rcs pc pm gN A' M',y∈rcs pc pm gN A M∨w.heap.size≤y) (k:Keep S w w') (hS: ∀s∈S,s∈rcs pc pm gN A M):
 RD Y w' pd gh pc pm gN e mn lw hi O M' v' A' V vp U ⟨c',d.H,d.P⟩:=by
 have l1:=h.b.d.lt;have l2:=h.b.hs.lt;refine⟨hr,(h.b.more h1 h2).keep k (fun s q=>⟨fun t=>h.ne.1 (t▸hS s q),fun t=>h.ne.2 (t▸hS s q),.inl (h1 s (h.c.mem s (hS s q)))⟩),fun q=> ?_,fun q=> ?_⟩
 ·rcases h4 _ q with r|r
  ·exact h.ne.1 r
  ·omega
 ·rcases h4 _ q with r|r
  ·exact h.ne.2 r
  ·omega
theorem RD.DZ (h:RD X w pd gh pc pm gN e mn lw hi O M v A V vp U d) (k:Nat) {p':Value×Value} {h':Hd} (hk:k<d.H.length) (r1:lG X w p'.1 h'.1) (r2:lG X w p'.2 h'.2) (kk:Keep [gh,pd] w w') (hg:jD w' gh (l6 (V.set k p')))
 (hd:jD w' pd [.pointer (some ⟨pc,0,none⟩),.slice (some ⟨gh,0,none⟩) d.H.length d.H.length,vp']) (row:nC X w vp' U') (ul:U'.length=P'.length)
 (po: ∀(i:Nat) (u:Value) (m:List Ob),U'[i]?=some u→P'[i]?=some m→lG X w u m):
 RD X w' pd gh pc pm gN e mn lw hi O M v A (V.set k p') vp' U' ⟨d.c,d.H.set k h',P'⟩:=by
 have hs: ∀s∈[gh,pd],s∈X∨w.heap.size≤s:=fun s q=>by
  simp at q;rcases q with rfl|rfl
  ·exact .inl h.b.mem.2
  ·exact .inl h.b.mem.1
 refine⟨h.c.keep kk (fun s q=>by
  simp at q;rcases q with rfl|rfl
  ·exact .inl ⟨h.b.mem.2,h.ne.2⟩
  ·exact .inl ⟨h.b.mem.1,h.ne.1⟩),⟨by rw[bZ];exact hd,hg,by simp[h.b.hl],fun i p g hp hg'=> ?_,row.keep kk hs,ul,fun i u m hu hm=>(po i u m hu hm).keep kk hs,h.b.mem,h.b.ne⟩,h.ne⟩
 by_cases q:k=i
 ·subst q
  rw[aY (by rw[h.b.hl];exact hk)] at hp;rw[aY hk] at hg';obtain rfl:=aI hp;obtain rfl:=aI hg';exact⟨r1.keep kk hs,r2.keep kk hs⟩
 ·rw[bL q] at hp hg'
  exact⟨(h.b.ho i p g hp hg').1.keep kk hs,(h.b.ho i p g hp hg').2.keep kk hs⟩
theorem RD.wN (h:RD X w pd gh pc pm gN e mn lw hi O M v A V vp U d) (k:Nat) {p':Value×Value} {h':Hd} (hk:k<d.H.length) (r1:lG X w p'.1 h'.1) (r2:lG X w p'.2 h'.2) (kk:Keep [gh] w w') (hg:jD w' gh (l6 (V.set k p'))):
 RD X w' pd gh pc pm gN e mn lw hi O M v A (V.set k p') vp U ⟨d.c,d.H.set k h',d.P⟩:=
 h.DZ k hk r1 r2 (kk.mono (fun s q=>by simp at q;subst q;simp)) hg (h.b.d.keep kk (by simpa using h.b.ne)) h.b.row h.b.ul h.b.po
theorem RD.setPile (h:RD X w pd gh pc pm gN e mn lw hi O M v A V vp U d) (kk:Keep [pd] w w') (hd:jD w' pd [.pointer (some ⟨pc,0,none⟩),.slice (some ⟨gh,0,none⟩) d.H.length d.H.length,vp']) (row:nC X w vp' U') (ul:U'.length=P'.length)
 (po: ∀(i:Nat) (u:Value) (m:List Ob),U'[i]?=some u→P'[i]?=some m→lG X w u m):
 RD X w' pd gh pc pm gN e mn lw hi O M v A V vp' U' ⟨d.c,d.H,P'⟩:=by
 have hs: ∀s∈[pd],s∈X∨w.heap.size≤s:=fun s q=>by simp at q;subst q;exact .inl h.b.mem.1
 exact⟨h.c.keep kk (fun s q=>by simp at q;subst q;exact .inl ⟨h.b.mem.1,h.ne.1⟩),⟨hd,h.b.hs.keep kk (by simpa using fun q=>h.b.ne q.symm),h.b.hl,fun i p g hp hg'=>⟨(h.b.ho i p g hp hg').1.keep kk hs,(h.b.ho i p g hp hg').2.keep kk hs⟩,row.keep kk hs,ul,fun i u m hu hm=>(po i u m hu hm).keep kk hs,h.b.mem,h.b.ne⟩,h.ne⟩
theorem RD.hand (h:RD X w pd gh pc pm gN e mn lw hi O M v A V vp U d) {k:Nat} {g:Hd} (hk:d.H[k]?=some g): ∃p,V[k]?=some p∧lG X w p.1 g.1∧lG X w p.2 g.2∧w.cell? ⟨gh,k*2,none⟩=some p.1∧w.cell? ⟨gh,k*2+1,none⟩=some p.2∧w.frozen? ⟨gh,k*2,none⟩=false∧w.frozen? ⟨gh,k*2+1,none⟩=false∧gh<w.heap.size:=by
 have hl:=(au.1 hk).1;obtain⟨p,hp⟩: ∃p,V[k]?=some p:=⟨V[k]'(by rw[h.b.hl];exact hl),aA _⟩;obtain⟨g1,g2⟩:=o7 hp;obtain⟨o1,o2⟩:=h.b.ho k p g hp hk;have hv:V.length=d.H.length:=h.b.hl;exact⟨p,hp,o1,o2,h.b.hs.c _ _ g1,h.b.hs.c _ _ g2,h.b.hs.f _ (by rw[kP];omega),h.b.hs.f _ (by rw[kP];omega),h.b.hs.lt⟩
theorem Oq {g k:Nat} {W:World} (h:jD W g (l6 V)) (hk:k<V.length) (x y:Value):jD ((W.setCell ⟨g,k*2,none⟩ x).setCell ⟨g,k*2+1,none⟩ y) g (l6 (V.set k (x,y))):=by
 obtain⟨p,hp⟩: ∃p,V[k]?=some p:=⟨V[k],aA hk⟩;have a1:=BG h hp x;have a2:=hloc2 a1 (yM hk _) y;rw[Ik] at a2;exact a2
theorem RD.pile (h:RD X w pd gh pc pm gN e mn lw hi O M v A V vp U d): ∃q k,vp= .slice q d.P.length k∧d.P.length≤k∧k≤maxLen∧∀(j:Nat) (m:List Ob),d.P[j]?=some m→∃u g o,U[j]?=some u∧q=some ⟨g,o,none⟩∧g∉X∧g<w.heap.size∧w.cell? ⟨g,o+j,none⟩=some u∧lG X w u m:=by
 obtain⟨q,k,e,h1,h2,h3⟩:=h.b.row.form;rw[h.b.ul] at e h1;refine⟨q,k,e,h1,h2,fun j m hm=> ?_⟩;have hl:=(au.1 hm).1;obtain⟨u,hu⟩: ∃u,U[j]?=some u:=⟨U[j]'(by rw[h.b.ul];exact hl),aA _⟩;obtain⟨g,o,e1,gx,e2,e3⟩:=h3 j u hu;exact⟨u,g,o,hu,e1,gx,e2,e3,h.b.po j u m hu hm⟩
theorem nC.cutV {X:List Nat} {w:World} {p:Option Addr} {n cap:Nat} {us:List Value} (h:nC X w (.slice p n cap) us) (m:Nat) (hm:m≤n):nC X w (.slice p m cap) (us.take m):=by
 obtain⟨p',cap',e,h1,h2,h3⟩:=h;injection e with e1 e2 e3;subst e1 e3;have el:(us.take m).length=m:=by rw[bC];omega
 refine⟨p,cap,by rw[el],om,h2,fun j u hj=> ?_⟩;rw[eO] at hj;split at hj
 ·exact h3 j u hj
 ·cases hj
def lI (X:List Nat) (pd gh pc pm gN e:Nat) (mn lw hi:Int) (O:List (List Int)) (M:List Nat) (A:SA) (w:World) (d':De) (r:Value) (en:Ending) (w':World):Prop:=
 en= .returned r∧∃X' M' v' A' V' vp' U',RD X' w' pd gh pc pm gN e mn lw hi O M' v' A' V' vp' U' d'∧Keep (rds pd gh pc pm gN A M) w w'∧(∀x∈X,x∈X')∧(∀x∈X',x∈X∨w.heap.size≤x)∧(∀x∈X',x<w'.heap.size)∧(∀y∈rds pd gh pc pm gN A' M',y∈rds pd gh pc pm gN A M∨w.heap.size≤y)
theorem lI.here {r:Value} (hX: ∀x∈X,x<w.heap.size) (hr:RD X w' pd gh pc pm gN e mn lw hi O M v' A V' vp' U' d') (k:Keep S w w') (hS: ∀s∈S,s∈rds pd gh pc pm gN A M):lI X pd gh pc pm gN e mn lw hi O M A w d' r (.returned r) w':=
 ⟨rfl,X,M,v',A,V',vp',U',hr,k.mono hS,fun _ q=>q,fun _ q=>.inl q,fun x q=>aC (hX x q) k.size,fun _ q=>.inl q⟩
end
section
variable {X Y Z S M M' F F' G:List Nat} {B:Nat} {w w' w0 w1:World} {ev:Nat→Addr} {pd pc pz gh pdm ghm pcm pm gN e:Nat} {mn lw hi:Int} {O:List (List Int)} {v v' vp vp':Value} {A A':SA} {V V':HV} {U U':List Value} {d d' m m':De}
theorem CD.addZ (h:CD B w X pd pc pz gh mn lw hi O e v A V vp U d) (k:Keep S w w1) (hs: ∀s∈S,(s∈X∨w.heap.size≤s)∧s∉xd pc v A d.c.L pd gh vp) (hX: ∀x∈X,x∈Z) (hZ: ∀y∈Z,(y∈X∨w.heap.size≤y)∧y<w1.heap.size) (hB:B≤w.heap.size):CD B w1 Z pd pc pz gh mn lw hi O e v A V vp U d:=by
 have hm: ∀y∈Z,y∈X∨w.heap.size≤y:=fun y hy=>(hZ y hy).1
 have f1: ∀s∈S,s∉day pd gh vp:=fun s q r=>(hs s q).2 (av _ r)
 have f2: ∀s∈S,s∉cay pc v A:=fun s q r=>(hs s q).2 (aj _ (av _ r))
 have f3: ∀s∈S,s∉ys d.c.L:=fun s q r=>(hs s q).2 (aj _ (aj _ r))
 refine⟨fun y hy=>hX y (h.x y hy),fun y hy=>⟨?_,(hZ y hy).2⟩,(h.cs.more hX hm).keep k (fun s q=>⟨f2 s q,(hs s q).1.imp (fun r=>⟨hX _ r,f3 s q⟩) id⟩),(h.de.more hm (fun y hy=>hX y (h.de.mem y hy))).keep k (fun s q=>⟨f1 s q,(hs s q).1.imp (fun r=>hX _ r) id⟩),h.ne⟩;rcases hm y hy with q|q
 ·exact(h.lim y q).1
 ·omega
theorem DpS.addZ (h:DpS B w0 pd pc pz gh mn lw hi O e X F d w) (hB:B≤w.heap.size) (k:Keep S w w1) (hs: ∀s∈S,s∈F) (hX: ∀x∈X,x∈Z) (hZ: ∀y∈Z,(y∈X∨w.heap.size≤y)∧y<w1.heap.size) (hF: ∀f∈F',(f∈F∨w.heap.size≤f)∧f∈Z):DpS B w0 pd pc pz gh mn lw hi O e Z F' d w1:=by
 obtain⟨v,A,V,vp,U,q,hf⟩:=h.cd;refine⟨⟨v,A,V,vp,U,q.addZ k (fun s hs'=>⟨.inl (hf s (hs s hs')).1,(hf s (hs s hs')).2⟩) hX hZ hB,fun f hff=>⟨(hF f hff).2,fun t=> ?_⟩⟩,h.inv,h.bel.trans (k.below hB fun s hs'=>(q.lim s (hf s (hs s hs')).1).1)⟩;rcases(hF f hff).1 with r|r
 ·exact(hf f r).2 t
 ·have:=(q.lim f (q.x f t)).2;omega
structure DZS (w0:World) (X F:List Nat) (pd pc pz gh pdm ghm pcm pm gN e:Nat) (mn lw hi:Int) (O:List (List Int)) (M:List Nat) (v:Value) (A:SA) (V:HV) (vp:Value) (U:List Value) (d m:De) (w:World):Prop where
 s:DpS w0.heap.size w0 pd pc pz gh mn lw hi O e X (rds pdm ghm pcm pm gN A M++F) d w
 r:RD X w pdm ghm pcm pm gN e mn lw hi O M v A V vp U m
 f: ∀f∈F,f∉rds pdm ghm pcm pm gN A M
def DZX (w0:World) (X F:List Nat) (pd pc pz gh pdm ghm pcm pm gN e:Nat) (mn lw hi:Int) (O:List (List Int)) (d m:De) (w:World):Prop:=
 ∃M v A V vp U,DZS w0 X F pd pc pz gh pdm ghm pcm pm gN e mn lw hi O M v A V vp U d m w
theorem DZX.inv (h:DZX w0 X F pd pc pz gh pdm ghm pcm pm gN e mn lw hi O d m w):oH e d:=by
 obtain⟨M,v,A,V,vp,U,q⟩:=h;exact q.s.inv
theorem DZS.prog (h:DZS w0 X F pd pc pz gh pdm ghm pcm pm gN e mn lw hi O M v A V vp U d m w) (hs:DpS w0.heap.size w0 pd pc pz gh mn lw hi O e Y (rds pdm ghm pcm pm gN A M++F) d' w') (k:Keep (off X (rds pdm ghm pcm pm gN A M++F)) w w') (h1: ∀x∈Y,x∈X∨w.heap.size≤x) (h2: ∀x∈X,x∈Y):
 DZS w0 Y F pd pc pz gh pdm ghm pcm pm gN e mn lw hi O M v A V vp U d' m w':=
 ⟨hs,(h.r.more h2 h1).keep k (fun s q=>.inl ⟨h2 s (jJ.1 q).1,fun t=>(jJ.1 q).2 (av _ t)⟩),h.f⟩
def DZPost (w0:World) (X F:List Nat) (pd pc pz gh pdm ghm pcm pm gN e:Nat) (mn lw hi:Int) (O:List (List Int)) (d m:De) (w:World) (r:Value) (en:Ending) (w':World):Prop:=
 en= .returned r∧∃X',DZX w0 X' F pd pc pz gh pdm ghm pcm pm gN e mn lw hi O d m w'∧Keep (off X F) w w'∧(∀x∈X',x∈X∨w.heap.size≤x)∧∀x∈X,x∈X'
theorem DZS.offp (h:DZS w0 X F pd pc pz gh pdm ghm pcm pm gN e mn lw hi O M v A V vp U d m w): ∀s∈off X (rds pdm ghm pcm pm gN A M++F),s∈off X F:=fun s q=>jJ.2 ⟨(jJ.1 q).1,fun t=>(jJ.1 q).2 (aj _ t)⟩
theorem dz_take (k n:Int) (u:Bool) (hE:GR w0.heap.size ev w0) (h:DZX w0 X F pd pc pz gh pdm ghm pcm pm gN e mn lw hi O d m w):
 Calls Tryz.prog 23 #[.pointer (some ⟨pd,0,none⟩),.int .i64 k,.int .i64 n,.bool u] w (DZPost w0 X F pd pc pz gh pdm ghm pcm pm gN e mn lw hi O (takeD mn O e d k n u).1 m w (.tuple #[obV (takeD mn O e d k n u).2.2,jW ev (takeD mn O e d k n u).2.1])):=by
 obtain⟨M,v,A,V,vp,U,q⟩:=h;exact(Ut k n u hE q.s).mono fun r w' ⟨hr,kk,X',h1,h2,h3⟩=>⟨hr,X',⟨M,v,A,V,vp,U,q.prog h3 kk h1 h2⟩,kk.mono q.offp,h1,h2⟩
theorem dz_give (k:Int) (o:Ob) (hE:GR w0.heap.size ev w0) (h:DZX w0 X F pd pc pz gh pdm ghm pcm pm gN e mn lw hi O d m w) (o1: -9223372036854775808≤o.2) (o2:o.2≤9223372036854775807):
 Calls Tryz.prog 50 #[.pointer (some ⟨pd,0,none⟩),.int .i64 k,.agg #[.int .i64 o.1,.int .i64 o.2]] w (DZPost w0 X F pd pc pz gh pdm ghm pcm pm gN e mn lw hi O (kK e d k o).1 m w (jW ev (kK e d k o).2)):=by
 obtain⟨M,v,A,V,vp,U,q⟩:=h;exact(Uu k o hE q.s o1 o2).mono fun r w' ⟨hr,kk,X',h1,h2,h3⟩=>⟨hr,X',⟨M,v,A,V,vp,U,q.prog h3 kk h1 h2⟩,kk.mono q.offp,h1,h2⟩
end
section
variable {X Y S M M' F G:List Nat} {w w' w0:World} {ev:Nat→Addr} {pd gh pc pm gN e:Nat} {mn lw hi:Int} {O:List (List Int)} {v v' vp vp':Value} {A A':SA} {V V':HV} {U U':List Value} {d d':De} {c c':Ca}
theorem FZ (v:Int) (w:World) (n:Nat) (c q vp:Value) (p:Option Addr) (hq:q= .slice p n n) (h:jD w pd [c,q,vp]):
 Calls Tryz.prog 60 #[.pointer (some ⟨pd,0,none⟩),.int .i64 v] w fun e w'=>e= .returned (.bool (decide (0≤v∧v<n)))∧w'=w:=by
 have c5:=h.gC 1;have cl:=h.lt;subst hq;clear h;by_cases v0:0≤v
 ·by_cases v1:v<n
  ·rw[decide_eq_true (show 0≤v∧v<n from⟨v0,v1⟩)]
   have d0:decide (0≤v)=true:=decide_eq_true v0;have d1:decide (v<(n:Int))=true:=decide_eq_true v1;go_enter Tryz.func60,Tryz.ntmps60;go_wp2;go_ret;exact⟨rfl,rfl⟩
  ·rw[decide_eq_false (show¬(0≤v∧v<n) from fun q=>v1 q.2)]
   have d0:decide (0≤v)=true:=decide_eq_true v0;have d1:decide (v<(n:Int))=false:=decide_eq_false v1;go_enter Tryz.func60,Tryz.ntmps60;go_wp2;go_ret;exact⟨rfl,rfl⟩
 ·rw[decide_eq_false (show¬(0≤v∧v<n) from fun q=>v0 q.1)]
  have d0:decide (0≤v)=false:=decide_eq_false v0;go_enter Tryz.func60,Tryz.ntmps60;go_wp2;go_ret;exact⟨rfl,rfl⟩
theorem RD.worker (h:RD X w pd gh pc pm gN e mn lw hi O M v A V vp U d) (k:Int):
 Calls Tryz.prog 60 #[.pointer (some ⟨pd,0,none⟩),.int .i64 k] w fun e w'=>e= .returned (.bool (decide (0≤k∧k<d.H.length)))∧w'=w:=
 FZ k w d.H.length _ _ _ _ rfl h.b.d
theorem QW (k n:Int) (u:Bool) (h:RD X w pd gh pc pm gN e mn lw hi O M v A V vp U d) (hX: ∀x∈X,x<w.heap.size) (hk:nY d k=none):
 Calls Tryz.prog 24 #[.pointer (some ⟨pd,0,none⟩),.int .i64 k,.int .i64 n,.bool u] w (lI X pd gh pc pm gN e mn lw hi O M A w (takeD mn O e d k n u).1 (.tuple #[obV (takeD mn O e d k n u).2.2,.int .i64 (takeD mn O e d k n u).2.1])):=by
 rw[tN hk];have b1:Below w.heap.size w (w.alloc (.cells #[.int .i64 0,.int .i64 0] 40)):=jK;have IW0:=(h.below b1).worker k;rw[decide_eq_false (show¬(0≤k∧k<d.H.length) from fun q=>by have:=vQ hk;omega)] at IW0;have IW:=ah IW0;have FIN:Hid (∀W,Below w.heap.size w W→lI X pd gh pc pm gN e mn lw hi O M A w d (.tuple #[.agg #[.int .i64 0,.int .i64 0],.int .i64 2]) (.returned (.tuple #[.agg #[.int .i64 0,.int .i64 0],.int .i64 2])) W):=fun W b=>lI.here hX (h.below b) (Keep.of (S:=[]) b) (fun s q=>by cases q)
 have L1:=ah (show jD (w.alloc (.cells #[.int .i64 0,.int .i64 0] 40)) w.heap.size [.int .i64 0,.int .i64 0] from jD.mk_ w [.int .i64 0,.int .i64 0] 40 rfl);clear h hk b1 IW0;go_enter Tryz.func24,jA;go_wp2_with fail;refine IW.out.mono ?_;rintro r w1 ⟨rfl,rfl⟩;have HM:=ah (L1.out.kH (.int .i64 0) (.int .i64 0));clear IW;go_wp2;have x0:=HM.out.gC 0;have x1:=HM.out.gC 1;exact bodyPost_ret (v:=.tuple #[.agg #[.int .i64 0,.int .i64 0],.int .i64 2]) (by simp[x0,x1,results,j5,go_sem]) rfl (FIN.out _ jK)
theorem rdtake_A (k:Nat) (n:Int) (u:Bool) (h:RD X w pd gh pc pm gN e mn lw hi O M v A V vp U d) (hI:oH e d) (hX: ∀x∈X,x<w.heap.size) {l r:List Ob} {o:Ob} (hk:d.H[k]?=some (l++[o],r)):
 Calls Tryz.prog 24 #[.pointer (some ⟨pd,0,none⟩),.int .i64 k,.int .i64 n,.bool u] w (lI X pd gh pc pm gN e mn lw hi O M A w (takeD mn O e d k n u).1 (.tuple #[obV (takeD mn O e d k n u).2.2,.int .i64 (takeD mn O e d k n u).2.1])):=by
 have hkl:=(au.1 hk).1;have hl4:=(hI.h4 _ (aF hk)).1;have ld:lZ (l++[o],r) d.P=((l++[o],r),d.P):=by unfold lZ;rw[if_neg sI]
 have et:takeD mn O e d k n u=(⟨d.c,d.H.set k (l,r),d.P⟩,0,o):=by
  rw[mD (nS hk) (o:=o) (by rw[ld];simp),ld];simp
 rw[et];have b1:Below w.heap.size w (w.alloc (.cells #[.int .i64 0,.int .i64 0] 40)):=jK;have L1:=ah (show jD (w.alloc (.cells #[.int .i64 0,.int .i64 0] 40)) w.heap.size [.int .i64 0,.int .i64 0] from jD.mk_ w [.int .i64 0,.int .i64 0] 40 rfl);obtain⟨W1,hW1⟩:=eY (w.alloc (.cells #[.int .i64 0,.int .i64 0] 40));have h1:=h.below b1;rw[←hW1] at b1 L1 h1;have s1:W1.heap.size=w.heap.size+1:=by rw[hW1];simp
 obtain⟨p,hp,o1,o2,g0,g1,f0,f1,gl⟩:=h1.hand hk;obtain⟨⟨pa,pb⟩,rfl⟩: ∃q,q=p:=⟨_,rfl⟩;obtain⟨q,cap,e1,cp1,cp2⟩:=o1.isSlice;obtain⟨q2,cap2,e2,_,_⟩:=o2.isSlice;simp only at e1 e2 g0 g1 hp;subst e1 e2;obtain⟨og,off,rfl,_,ogl,t0,t1⟩:=lG.at (by simpa using o1) (j:=l.length) (o:=o) sI;have c1:=h1.b.d.gC 1;have cl:=h1.b.d.lt;have e3:(l++[o]).length=l.length+1:=sI;rw[e3] at g0 hl4 cp1;have IW0:=h1.worker k;rw[decide_eq_true (show 0≤(k:Int)∧(k:Int)<d.H.length from om)] at IW0;have IW:=ah IW0;have hH4:=hI.hl;have hvl:k<V.length:=by rw[h.b.hl];exact hkl
 obtain⟨p',hp',o1',o2',_⟩:=h.hand hk;rw[hp] at hp';obtain rfl:=aI hp';have ro1:lG X w (.slice (some ⟨og,off,none⟩) l.length cap) l:=by
  obtain⟨q',cap',e4,e5⟩:=o1'.cut l.length sI;simp only at e4;injection e4 with e6 _ e7;subst e6 e7;simpa using e5
 have ghl:gh<w.heap.size:=h.b.hs.lt;have yJ:Hid (∀W2 W,Keep [] w W2→Below w.heap.size ((W2.setCell ⟨gh,k*2,none⟩ (.slice (some ⟨og,off,none⟩) l.length cap)).setCell ⟨gh,k*2+1,none⟩ (.slice q2 r.length cap2)) W→lI X pd gh pc pm gN e mn lw hi O M A w ⟨d.c,d.H.set k (l,r),d.P⟩ (.tuple #[.agg #[.int .i64 o.1,.int .i64 o.2],.int .i64 0]) (.returned (.tuple #[.agg #[.int .i64 o.1,.int .i64 o.2],.int .i64 0])) W):=fun W2 W k2 b=>by
  have lo:=(Oq (h.b.hs.keep k2 sI) hvl (.slice (some ⟨og,off,none⟩) l.length cap) (.slice q2 r.length cap2)).below b ghl;have kk:Keep [gh] w W:=(((k2.mono (S':=[gh]) (fun _ q=>by cases q)).setCell (p:=⟨gh,k*2,none⟩) (.inl sI) _).setCell (p:=⟨gh,k*2+1,none⟩) (.inl sI) _).low b (aH _);exact lI.here hX (h.wN k (p':=(.slice (some ⟨og,off,none⟩) l.length cap,.slice q2 r.length cap2)) (h':=(l,r)) hkl ro1 o2' kk lo) kk (fun s q=>by simp at q;subst q;exact ak _ (aG ..))
 obtain⟨m,hm⟩:=eY l.length;obtain⟨mr,hmr⟩: ∃m,m=r.length:=⟨_,rfl⟩;obtain⟨nH,hnH⟩: ∃m,m=d.H.length:=⟨_,rfl⟩;rw[←hm] at g0 t0 t1 hl4 cp1 yJ;rw[←hmr] at g1 yJ;rw[←hnH] at c1 hkl hH4;have hw1:IntKind.i64.wrap (((m+1:Nat):Int)-1)=(m:Int):=by rw[bB _ om];omega
 have d1:decide ((m+1:Nat)=0)=false:=sI;have r1: ¬(gh=w.heap.size):=om;have r2: ¬(gh=w.heap.size+1):=om;have r3: ¬(gh=w.heap.size+1+1):=om;have r4: ¬(w.heap.size+1=gh):=om;have r5: ¬(w.heap.size+1+1=gh):=om;have r6: ¬(w.heap.size=gh):=om;have K1:=ah (Keep.of (S:=[]) b1);have rl:w.heap.size<W1.heap.size:=om;have i0:(0:Int)≤(k:Int):=om;have i1:(k:Int)<(nH:Int):=om;have S1:=ah s1;rw[s1] at ogl cl gl;have LL:=L1.out;have v0:=LL.gC 0;have v1:=LL.gC 1;have vf0:=LL.f 0 sI;have vf1:=LL.f 1 sI;clear h h1 hI hk hp o1 o2 o1' o2' ro1 e3 hm hmr hnH ld et b1 hp' IW0 LL;go_enter Tryz.func24,jA;go_wp2_with fail;rw[←hW1];clear hW1;refine IW.out.mono ?_;rintro r' w1 ⟨rfl,rfl⟩;clear IW;go_wp2;refine kX 7 kR kR ?_;simp only[aQ,aW,aP,aU];repeat still_step
 refine wpStill_nil ?_;go_wp2;have M:=ah ((((((L1.out.far (c:=gh) r1 (k*2) (.slice (some ⟨og,off,none⟩) m cap)).far (c:=gh) r1 (k*2+1) (.slice q2 mr cap2)).kH (.int .i64 o.1) (.int .i64 o.2)).past (.cells #[.slice (some ⟨og,off,none⟩) m cap,.slice q2 mr cap2] 153)).past (.cells #[.int .i64 o.1,.int .i64 o.2] 40)).lT);have x0:=M.out.gC 0;have x1:=M.out.gC 1;exact bodyPost_ret (v:=.tuple #[.agg #[.int .i64 o.1,.int .i64 o.2],.int .i64 0]) (by simp[x0,x1,results,j5,go_sem]) rfl (yJ.out _ _ K1.out (by refine Below.drew ?_;refine iK ?_ (by simp;omega) _;refine iK ?_ (by simp;omega) _;refine gV ?_ sI _;refine gV ?_ sI _;exact aO _ _))
theorem rdtake_B (k:Nat) (n:Int) (u:Bool) (h:RD X w pd gh pc pm gN e mn lw hi O M v A V vp U d) (hI:oH e d) (hX: ∀x∈X,x<w.heap.size) {l:List Ob} {o:Ob} (hk:d.H[k]?=some ([],l++[o])):
 Calls Tryz.prog 24 #[.pointer (some ⟨pd,0,none⟩),.int .i64 k,.int .i64 n,.bool u] w (lI X pd gh pc pm gN e mn lw hi O M A w (takeD mn O e d k n u).1 (.tuple #[obV (takeD mn O e d k n u).2.2,.int .i64 (takeD mn O e d k n u).2.1])):=by
 have hkl:=(au.1 hk).1;have hl4:=(hI.h4 _ (aF hk)).2;have ld:lZ ([],l++[o]) d.P=((l++[o],[]),d.P):=by unfold lZ;rw[if_pos rfl,if_neg sI]
 have et:takeD mn O e d k n u=(⟨d.c,d.H.set k (l,[]),d.P⟩,0,o):=by
  rw[mD (nS hk) (o:=o) (by rw[ld];simp),ld];simp
 rw[et];have b1:Below w.heap.size w (w.alloc (.cells #[.int .i64 0,.int .i64 0] 40)):=jK;have L1:=ah (show jD (w.alloc (.cells #[.int .i64 0,.int .i64 0] 40)) w.heap.size [.int .i64 0,.int .i64 0] from jD.mk_ w [.int .i64 0,.int .i64 0] 40 rfl);obtain⟨W1,hW1⟩:=eY (w.alloc (.cells #[.int .i64 0,.int .i64 0] 40));have h1:=h.below b1;rw[←hW1] at b1 L1 h1;have s1:W1.heap.size=w.heap.size+1:=by rw[hW1];simp
 obtain⟨p,hp,o1,o2,g0,g1,f0,f1,gl⟩:=h1.hand hk;obtain⟨⟨pa,pb⟩,rfl⟩: ∃q,q=p:=⟨_,rfl⟩;obtain⟨q2,cap2,e2,_,_⟩:=o1.isSlice;obtain⟨q,cap,e1,cp1,cp2⟩:=o2.isSlice;simp only at e1 e2 g0 g1 hp;subst e1 e2;obtain⟨og,off,rfl,_,ogl,t0,t1⟩:=lG.at (by simpa using o2) (j:=l.length) (o:=o) sI;have c1:=h1.b.d.gC 1;have cl:=h1.b.d.lt;have e3:(l++[o]).length=l.length+1:=sI;rw[e3] at g1 hl4 cp1;rw[show([]:List Ob).length=0 from rfl] at g0;have IW0:=h1.worker k;rw[decide_eq_true (show 0≤(k:Int)∧(k:Int)<d.H.length from om)] at IW0;have IW:=ah IW0;have hH4:=hI.hl;have hvl:k<V.length:=by rw[h.b.hl];exact hkl
 obtain⟨p',hp',o1',o2',_⟩:=h.hand hk;rw[hp] at hp';obtain rfl:=aI hp';have ro1:lG X w (.slice (some ⟨og,off,none⟩) l.length cap) l:=by
  obtain⟨q',cap',e4,e5⟩:=o2'.cut l.length sI;simp only at e4;injection e4 with e6 _ e7;subst e6 e7;simpa using e5
 have ghl:gh<w.heap.size:=h.b.hs.lt;have yJ:Hid (∀W2 W,Keep [] w W2→Below w.heap.size ((W2.setCell ⟨gh,k*2,none⟩ (.slice (some ⟨og,off,none⟩) l.length cap)).setCell ⟨gh,k*2+1,none⟩ (.slice q2 0 cap2)) W→lI X pd gh pc pm gN e mn lw hi O M A w ⟨d.c,d.H.set k (l,[]),d.P⟩ (.tuple #[.agg #[.int .i64 o.1,.int .i64 o.2],.int .i64 0]) (.returned (.tuple #[.agg #[.int .i64 o.1,.int .i64 o.2],.int .i64 0])) W):=fun W2 W k2 b=>by
  have lo:=(Oq (h.b.hs.keep k2 sI) hvl (.slice (some ⟨og,off,none⟩) l.length cap) (.slice q2 0 cap2)).below b ghl;have kk:Keep [gh] w W:=(((k2.mono (S':=[gh]) (fun _ q=>by cases q)).setCell (p:=⟨gh,k*2,none⟩) (.inl sI) _).setCell (p:=⟨gh,k*2+1,none⟩) (.inl sI) _).low b (aH _);exact lI.here hX (h.wN k (p':=(.slice (some ⟨og,off,none⟩) l.length cap,.slice q2 0 cap2)) (h':=(l,[])) hkl ro1 o1' kk lo) kk (fun s q=>by simp at q;subst q;exact ak _ (aG ..))
 obtain⟨m,hm⟩:=eY l.length;obtain⟨nH,hnH⟩: ∃m,m=d.H.length:=⟨_,rfl⟩;rw[←hm] at g1 t0 t1 hl4 cp1 yJ;rw[←hnH] at c1 hkl hH4;have hw1:IntKind.i64.wrap (((m+1:Nat):Int)-1)=(m:Int):=by rw[bB _ om];omega
 have d1:decide ((m+1:Nat)=0)=false:=sI;have r1: ¬(gh=w.heap.size):=om;have r2: ¬(gh=w.heap.size+1):=om;have r3: ¬(gh=w.heap.size+1+1):=om;have r4: ¬(w.heap.size+1=gh):=om;have r5: ¬(w.heap.size+1+1=gh):=om;have r6: ¬(w.heap.size=gh):=om;have K1:=ah (Keep.of (S:=[]) b1);have rl:w.heap.size<W1.heap.size:=om;have i0:(0:Int)≤(k:Int):=om;have i1:(k:Int)<(nH:Int):=om;have S1:=ah s1;rw[s1] at ogl cl gl;have LL:=L1.out;have v0:=LL.gC 0;have v1:=LL.gC 1;have vf0:=LL.f 0 sI;have vf1:=LL.f 1 sI;clear h h1 hI hk hp o1 o2 o1' o2' ro1 e3 hm hnH ld et b1 hp' IW0 LL;go_enter Tryz.func24,jA;go_wp2_with fail;rw[←hW1];clear hW1;refine IW.out.mono ?_;rintro r' w1 ⟨rfl,rfl⟩;clear IW;go_wp2;refine kX 7 kR kR ?_;simp only[aQ,aW,aP,aU];repeat still_step
 refine wpStill_nil ?_;go_wp2;have M:=ah ((((((L1.out.far (c:=gh) r1 (k*2) (.slice (some ⟨og,off,none⟩) m cap)).far (c:=gh) r1 (k*2+1) (.slice q2 0 cap2)).kH (.int .i64 o.1) (.int .i64 o.2)).past (.cells #[.slice (some ⟨og,off,none⟩) m cap,.slice q2 0 cap2] 153)).past (.cells #[.int .i64 o.1,.int .i64 o.2] 40)).lT);have x0:=M.out.gC 0;have x1:=M.out.gC 1;exact bodyPost_ret (v:=.tuple #[.agg #[.int .i64 o.1,.int .i64 o.2],.int .i64 0]) (by simp[x0,x1,results,j5,go_sem]) rfl (yJ.out _ _ K1.out (by refine Below.drew ?_;refine iK ?_ (by simp;omega) _;refine iK ?_ (by simp;omega) _;refine gV ?_ sI _;refine gV ?_ sI _;exact aO _ _))
end
end Go.Proofs.YtehhldljdakgeaaGreatDoor
