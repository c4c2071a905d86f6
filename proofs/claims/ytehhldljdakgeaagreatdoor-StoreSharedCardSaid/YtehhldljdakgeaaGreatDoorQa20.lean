/- Lemmas and contracts for the claim's last text: RefT, RefM. -/
import Derived.Test.YtehhldljdakgeaaGreatDoorQa01
import Derived.Test.YtehhldljdakgeaaGreatDoorQa19
set_option linter.unusedSimpArgs false
set_option linter.unusedVariables false
set_option maxHeartbeats 16000000
set_option maxRecDepth 100000
namespace Go.Proofs.YtehhldljdakgeaaGreatDoor
open Go.RowKit Go.Maps
attribute [local go_sem ↓] aJ aK
def y9 (X:List Nat) (w:World) (v:Value) (l:List (Int×Int)):Prop:=
 (v= .slice none 0 0∧l=[])∨∃g cap,v= .slice (some ⟨g,0,none⟩) l.length cap∧l.length≤cap∧cap≤maxLen∧g∉X∧g<w.heap.size∧RowC w g l
theorem y9.Qr {X:List Nat} {w:World} {v:Value} {l:List (Int×Int)} (h:y9 X w v l):GJ 0 w v l:=by
 rcases h with h|⟨g,cap,h1,h2,h3,_,h5,h6⟩
 ·exact .inl h
 ·exact .inr ⟨g,cap,h1,h2,h3,bq _,h5,h6⟩
theorem y9.keep {X S:List Nat} {w w':World} {v:Value} {l:List (Int×Int)} (h:y9 X w v l) (k:Keep S w w') (hs: ∀s∈S,s∈X∨w.heap.size≤s):y9 X w' v l:=by
 rcases h with h|⟨g,cap,h1,h2,h3,h4,h5,h6⟩
 ·exact .inl h
 ·exact .inr ⟨g,cap,h1,h2,h3,h4,aC h5 k.size,h6.keep k h5 fun q=>by rcases hs g q with r|r;(·exact h4 r);(·omega)⟩
theorem y9.of {X:List Nat} {w w':World} {v:Value} {l:List (Int×Int)} (h:Ns w w' v l) (hX: ∀x∈X,x<w.heap.size):y9 X w' v l:=by
 rcases h.Qr with h|⟨g,cap,h1,h2,h3,h4,h5,h6⟩
 ·exact .inl h
 ·exact .inr ⟨g,cap,h1,h2,h3,fun q=>by have:=hX g q;omega,h5,h6⟩
theorem y9.more {X Y:List Nat} {w:World} {v:Value} {l:List (Int×Int)} (h:y9 X w v l) (hY: ∀y∈Y,y∈X∨w.heap.size≤y):y9 Y w v l:=by
 rcases h with h|⟨g,cap,h1,h2,h3,h4,h5,h6⟩
 ·exact .inl h
 ·exact .inr ⟨g,cap,h1,h2,h3,fun q=>by rcases hY g q with r|r;(·exact h4 r);(·omega),h5,h6⟩
theorem Ns.isSlice {w w':World} {v:Value} {l:List (Int×Int)} (h:Ns w w' v l): ∃p m c,v= .slice p m c:=by
 rcases h.Qr with⟨h,_⟩|⟨g,cap,h,_⟩
 ·exact⟨_,_,_,h⟩
 ·exact⟨_,_,_,h⟩
structure uZ (X:List Nat) (w:World) (pm:Nat) (n:Int) (vF vT:Value) (F T:List (Int×Int)):Prop where
 lt:pm<w.heap.size
 mem:pm∈X
 c0:w.cell? ⟨pm,0,none⟩=some (.int .i64 n)
 c1:w.cell? ⟨pm,1,none⟩=some vF
 c2:w.cell? ⟨pm,2,none⟩=some vT
 f1:w.frozen? ⟨pm,1,none⟩=false
 f2:w.frozen? ⟨pm,2,none⟩=false
 rF:y9 X w vF F
 rT:y9 X w vT T
theorem uZ.keep {X S:List Nat} {w w':World} {pm:Nat} {n:Int} {vF vT:Value} {F T:List (Int×Int)} (h:uZ X w pm n vF vT F T) (k:Keep S w w') (hs: ∀s∈S,(s∈X∧s≠pm)∨w.heap.size≤s):uZ X w' pm n vF vT F T:=by
 have hn:pm∉S:=fun q=>by rcases hs pm q with⟨_,r⟩|r;(·exact r rfl);(·have:=h.lt;omega)
 have hs': ∀s∈S,s∈X∨w.heap.size≤s:=fun s q=>(hs s q).imp And.left id
 exact⟨aC h.lt k.size,h.mem,(k.cell h.lt hn).trans h.c0,(k.cell h.lt hn).trans h.c1,(k.cell h.lt hn).trans h.c2,(k.frozen h.lt hn).trans h.f1,(k.frozen h.lt hn).trans h.f2,h.rF.keep k hs',h.rT.keep k hs'⟩
theorem uZ.below {X:List Nat} {w w':World} {pm:Nat} {n:Int} {vF vT:Value} {F T:List (Int×Int)} (h:uZ X w pm n vF vT F T) (k:Below w.heap.size w w'):uZ X w' pm n vF vT F T:=
 h.keep (Keep.of (S:=[]) k) (fun _ q=>by cases q)
theorem y9.sub {X Y:List Nat} {w:World} {v:Value} {l:List (Int×Int)} (h:y9 Y w v l) (hX: ∀x∈X,x∈Y):y9 X w v l:=by
 rcases h with h|⟨g,cap,h1,h2,h3,h4,h5,h6⟩
 ·exact .inl h
 ·exact .inr ⟨g,cap,h1,h2,h3,fun q=>h4 (hX g q),h5,h6⟩
theorem uZ.more {X Y:List Nat} {w:World} {pm:Nat} {n:Int} {vF vT:Value} {F T:List (Int×Int)} (h:uZ X w pm n vF vT F T) (hm:pm∈Y) (hY: ∀y∈Y,y∈X∨w.heap.size≤y):uZ Y w pm n vF vT F T:=
 ⟨h.lt,hm,h.c0,h.c1,h.c2,h.f1,h.f2,h.rF.more hY,h.rT.more hY⟩
theorem uZ.sub {X Y:List Nat} {w:World} {pm:Nat} {n:Int} {vF vT:Value} {F T:List (Int×Int)} (h:uZ Y w pm n vF vT F T) (hm:pm∈X) (hX: ∀x∈X,x∈Y):uZ X w pm n vF vT F T:=
 ⟨h.lt,hm,h.c0,h.c1,h.c2,h.f1,h.f2,h.rF.sub hX,h.rT.sub hX⟩
theorem uZ.setF {X:List Nat} {w:World} {pm:Nat} {n:Int} {vF vT v:Value} {F T F':List (Int×Int)} (h:uZ X w pm n vF vT F T) (hv:y9 X w v F'):uZ X (w.setCell ⟨pm,1,none⟩ v) pm n v vT F' T:=by
 have k:Keep [pm] w (w.setCell ⟨pm,1,none⟩ v):=(Keep.refl _ _).setCell (.inl sI) _;have hs: ∀s∈[pm],s∈X∨w.heap.size≤s:=fun s q=>.inl (by rw[bN.1 q];exact h.mem)
 refine⟨by simpa[World.setCell] using h.lt,h.mem,?_,?_,?_,by rw[jX];exact h.f1,by rw[jX];exact h.f2,hv.keep k hs,h.rT.keep k hs⟩
 ·rw[jM _ om];exact h.c0
 ·exact jY _ h.c1
 ·rw[jM _ om];exact h.c2
theorem uZ.setT {X:List Nat} {w:World} {pm:Nat} {n:Int} {vF vT v:Value} {F T T':List (Int×Int)} (h:uZ X w pm n vF vT F T) (hv:y9 X w v T'):uZ X (w.setCell ⟨pm,2,none⟩ v) pm n vF v F T':=by
 have k:Keep [pm] w (w.setCell ⟨pm,2,none⟩ v):=(Keep.refl _ _).setCell (.inl sI) _;have hs: ∀s∈[pm],s∈X∨w.heap.size≤s:=fun s q=>.inl (by rw[bN.1 q];exact h.mem)
 refine⟨by simpa[World.setCell] using h.lt,h.mem,?_,?_,?_,by rw[jX];exact h.f1,by rw[jX];exact h.f2,h.rF.keep k hs,hv.keep k hs⟩
 ·rw[jM _ om];exact h.c0
 ·rw[jM _ om];exact h.c1
 ·exact jY _ h.c2
theorem uM.absent {n:Int} {F T:List (Int×Int)} {a k:Int} (k0:0≤k) (h:uM n F T (a,k+1)): ∀z∈F,z.1≠a+sz k:=by
 intro z hz e;have h6:=h.blk.2.2.1;simp only at h6;have s1:=oJ k;have s2:=wh k0 om;have:=h.t.one (ak _ (av _ hz)) (aG ..) (p:=z.1) (Cn z) ⟨by show a≤z.1;omega,by show z.1<a+sz (k+1);omega⟩;have:=congrArg Prod.fst this;simp only at this;omega
theorem Uw {k m:Int} {a:Int} {F:List (Int×Int)} (h:k<m):tH (m-k).toNat a k F=tH (m-1-k).toNat a k (qh (a+sz (m-1)) (m-1) F):=by
 obtain⟨d,hd⟩: ∃d,(m-k).toNat=d+1:=⟨(m-k).toNat-1,om⟩;have e1:(m-1-k).toNat=d:=om;have e2:k+(d:Int)=m-1:=om;rw[hd,e1,tH,e2]
def bI:Option (Nat×(Int×Int))→Int
 |none=> -1
 |some (i,_)=>i
def Ux (X:List Nat) (pm:Nat) (n k:Int) (F T:List (Int×Int)) (w:World) (e:Ending) (w':World):Prop:=
 (mq k F=none∧e= .returned (.tuple #[.agg #[.int .i64 0,.int .i64 0],.bool false])∧Below w.heap.size w w')∨
   ∃x vF' vT',mq k F=some x∧e= .returned (.tuple #[.agg #[.int .i64 x.1,.int .i64 k],.bool true])∧uZ X w' pm n vF' vT' (sJ k x F) (qh x.1 k T)∧Keep [pm] w w'
theorem QN {X:List Nat} (pm:Nat) (n:Int) (vF vT:Value) (F T:List (Int×Int)) (k:Int) (w:World) (h:uZ X w pm n vF vT F T) (hX: ∀x∈X,x<w.heap.size) (hI:Inv n F T) (k0:0≤k):
 Calls Tryz.prog 142 #[.pointer (some ⟨pm,0,none⟩),.int .i64 k] w (Ux X pm n k F T w):=by
 have HR:=ah h;have HI:=ah hI;have HX:=ah hX;have c1:=h.c1;have lp:=h.lt;have lF:=hI.lenF;have h': ∃p cap,vF= .slice p F.length cap∧Hid (F=[]∨∃g,p=some ⟨g,0,none⟩∧g<w.heap.size∧RowC w g F):=by
  rcases h.rF with⟨rfl,rfl⟩|⟨g,cap,rfl,_,_,_,hg,hc⟩
  ·exact⟨none,0,rfl,.inl rfl⟩
  ·exact⟨_,cap,rfl,.inr ⟨g,rfl,hg,hc⟩⟩
 obtain⟨p,cap,rfl,HP0⟩:=h';clear h hI hX;obtain⟨N,hN⟩:=eY F.length;have HN:=ah hN;rw[←hN] at lF HR c1;clear hN;go_enter Tryz.func142,Tryz.ntmps142;go_wp2_with fail;go_loopw [6,7] (fun bv iv wr=>∃(i:Nat) (b:Option (Nat×(Int×Int))),i≤N∧iv= .int .i64 i∧bv= .int .i64 (bI b)∧Hid (uy k (F.take i) b)∧Hid (vV wr w.heap.size 0 0)∧Below w.heap.size w wr) (fun _ iv _=>N-(intOf iv).toNat);case atStart=>exact⟨0,none,bq _,by go_num,rfl,Qo k,vV.new w 0 0 _,jK⟩
 case round=>
  obtain⟨i,b,hi,rfl,rfl,BT,L0,hbel⟩:=hrel;have zr:w.heap.size<wr.heap.size:=L0.out.lt;have cr:=(hbel.cell (p:=⟨pm,1,none⟩) lp).trans c1;have lpr:pm<wr.heap.size:=om;by_cases hlt:i<N
  ·rcases HP0.out with e0|⟨g,rfl,hg,hc⟩
   ·have:=HN.out;rw[e0] at this;simp at this;omega
   obtain⟨y,hy⟩: ∃y,F[i]?=some y:=⟨F[i]'(by rw[←HN.out];exact hlt),aA _⟩;have etk:F.take (i+1)=F.take i++[y]:=by rw[bT,hy];rfl
   have ltk:(F.take i).length=i:=by rw[bC,←HN.out];omega
   obtain⟨y0,y1⟩:=y;obtain⟨p1,p2⟩:=hc i y0 y1 hy;have r2:=(hbel.cell (p:=⟨g,i*2+1,none⟩) hg).trans p2;have gr:g<wr.heap.size:=om;have ETK:=ah etk;have LTK:=ah ltk;have HY:=ah hy;clear p1 p2 hy etk ltk;by_cases hk:k≤y1
   ·have hkd:decide (k≤y1)=true:=decide_eq_true hk
    match b,BT with
    |none,BT=>
     have bt:uy k (F.take (i+1)) (some (i,(y0,y1))):=by
      have:=zM BT.out (y:=(y0,y1)) hk (fun _ _ e=>by cases e);rwa [←ETK.out,LTK.out] at this
     have BT2:=ah bt;clear bt hc;simp only[bI];go_wp2;go_quiet (fail);go_wp2;go_roundw;case rel=>exact⟨i+1,some (i,(y0,y1)),om,by go_num,rfl,BT2,(show vV _ _ _ _ from L0.out.keep ((Keep.refl [] _).drewN _) sI),below_drewN hbel _⟩
     case measure=>simp[intOf];omega
    |some (q,x),BT=>
     obtain⟨hq,_⟩:=BT.out;obtain⟨x0,x1⟩:=x;have hqi:q<i:=by have:=(au.1 hq).1;rw[LTK.out] at this;exact this
     rw[dD hqi] at hq;obtain⟨p1,p2⟩:=hc q x0 x1 hq;have r4:=(hbel.cell (p:=⟨g,q*2+1,none⟩) hg).trans p2;have hq0: ¬(q:Int)<0:=om;have hqN:q<N:=om;simp only[bI];by_cases hx:y1<x1
     ·have bt:uy k (F.take (i+1)) (some (i,(y0,y1))):=by
       have:=zM BT.out (y:=(y0,y1)) hk (fun _ _ e=>by cases e;exact hx);rwa [←ETK.out,LTK.out] at this
      have BT2:=ah bt;clear bt hc hq p1 p2;go_wp2;go_quiet (fail);go_wp2;go_roundw;case rel=>exact⟨i+1,some (i,(y0,y1)),om,by go_num,rfl,BT2,(show vV _ _ _ _ from L0.out.keep ((Keep.refl [] _).drewN _) sI),below_drewN hbel _⟩
      case measure=>simp[intOf];omega
     ·have bt:uy k (F.take (i+1)) (some (q,(x0,x1))):=by
       rw[ETK.out];exact zK BT.out (.inr ⟨q,(x0,x1),rfl,by show x1≤y1;omega⟩)
      have BT2:=ah bt;clear bt hc hq p1 p2;go_wp2;go_quiet (fail);go_wp2;go_roundw;case rel=>exact⟨i+1,some (q,(x0,x1)),om,by go_num,rfl,BT2,(show vV _ _ _ _ from L0.out.keep ((Keep.refl [] _).drewN _) sI),below_drewN hbel _⟩
      case measure=>simp[intOf];omega
   ·have hkd:decide (k≤y1)=false:=decide_eq_false hk
    have bt:uy k (F.take (i+1)) b:=by
     rw[ETK.out];exact zK BT.out (.inl (by show y1<k;omega))
    have BT2:=ah bt;clear bt hc;go_wp2;go_quiet (fail);go_wp2;go_roundw;case rel=>exact⟨i+1,b,om,by go_num,rfl,BT2,(show vV _ _ _ _ from L0.out.keep ((Keep.refl [] _).drewN _) sI),below_drewN hbel _⟩
    case measure=>simp[intOf];omega
  ·have ei:i=N:=by omega
   have bt:uy k F b:=by have:=BT.out;rwa [ei,HN.out,bU] at this
   have l00:=L0.out.c0;have l01:=L0.out.c1;have l0f:=L0.out.f0;have l1f:=L0.out.f1;match b,bt with
   |none,bt=>
    have hb:=H9 bt;have HBN:=ah hb;clear bt hb ei;simp only[bI];go_wp2;have e0:=jY (.int .i64 0) l00;have e1:=jY (w:=wr.setCell ⟨w.heap.size,0,none⟩ (.int .i64 0)) (.int .i64 0) ((jM _ om).trans l01);have e2:=(jM (w:=wr.setCell ⟨w.heap.size,0,none⟩ (.int .i64 0)) (g:=w.heap.size) (o:=1) (o':=0) (.int .i64 0) om).trans e0;exact bodyPost_ret (v:=.tuple #[.agg #[.int .i64 0,.int .i64 0],.bool false]) (by simp[e0,e1,e2,results,Tryz.results142,go_sem]) rfl (Or.inl ⟨HBN.out,rfl,jK⟩)
   |some (q,x),bt=>
    obtain⟨hq,hbest⟩:=bt;obtain⟨a,m0⟩:=x;have hqN:q<N:=by rw[HN.out];exact(au.1 hq).1
    rcases HP0.out with e0|⟨g,rfl,hg,hc⟩
    ·have:=HN.out;rw[e0] at this;simp at this;omega
    obtain⟨p1,p2⟩:=hc q a m0 hq;have r1:=(hbel.cell (p:=⟨g,q*2,none⟩) hg).trans p1;have r2:=(hbel.cell (p:=⟨g,q*2+1,none⟩) hg).trans p2;have gr:g<wr.heap.size:=om;obtain⟨hxF,hkx⟩:=nu hbest;have hrx:=HI.out.rngF hxF;simp only at hkx hrx;have ih:=ah (HI.out.hand hxF);have edel:=Nq HI.out.fa hq;simp only at edel;have ED:=ah edel;have HBE:=ah hbest;have TI1:=ah (HI.out.take k0 hbest);have fr1:=(hbel.frozen (p:=⟨pm,1,none⟩) lp).trans HR.out.f1;have qz: ¬(q:Int)<0:=om;have pmX:=HR.out.mem;have HRr:=(HR.out.more (Y:=wr.heap.size::w.heap.size::X) (by simp[pmX]) (fun y hy=>by simp at hy;rcases hy with rfl|rfl|hy;(·right;omega);(·right;omega);(·left;exact hy))).below hbel;have RTr:=HRr.rF.Qr.below (w':=wr.alloc (.cells #[.int .i64 a,.int .i64 m0] 213)) jK;have WO:=ah (QM _ F q _ RTr (by rw[←HN.out];exact hqN) (by rw[←HN.out];exact lF));have HRr2:=ah HRr;clear hq hbest hc p1 p2 edel hxF RTr HRr ei;simp only[bI];go_wp2_with fail;refine WO.out.mono ?_;rintro e w1 ⟨v1,rfl,ho⟩;obtain⟨s1,s2,s3,rfl⟩:=ho.isSlice;clear WO;have hb1:=ho.2;have z1:=hb1.size;simp at z1;have bel1:Below wr.heap.size wr w1:=jK;have X1:=(vV.new wr a m0 213).below hb1 sI;have R1:=HRr2.out.below bel1;have hX1: ∀y∈wr.heap.size::w.heap.size::X,y<(wr.alloc (.cells #[.int .i64 a,.int .i64 m0] 213)).heap.size:=fun y hy=>by
     simp at hy ⊢;rcases hy with rfl|rfl|hy
     ·omega
     ·omega
     ·have:=HX.out y hy;omega
    have row1:=y9.of ho hX1;rw[←ED.out] at row1;have R2:=R1.setF row1;have L1:=L0.out.below bel1 om;have np:pm≠wr.heap.size:=om;have nl:pm≠w.heap.size:=om;have ks:Keep [pm] w1 (w1.setCell ⟨pm,1,none⟩ (.slice s1 s2 s3)):=(Keep.refl _ _).setCell (.inl sI) _;have HX2:=ah (X1.keep ks (by simpa using np.symm));have HL2:=ah (L1.keep ks (by simpa using nl.symm));have HR2:=ah R2;have K2:Keep [pm] w (w1.setCell ⟨pm,1,none⟩ (.slice s1 s2 s3)):=((Keep.of hbel).trans (S':=[]) (Keep.of bel1) (fun _ q=>by cases q)).then ks;have q1:=R1.c1;have q2:=R1.f1;have q3:=R1.lt;have cr1:=(bel1.cell (p:=⟨pm,1,none⟩) lpr).trans cr;have DF2:=ah (show tH (m0-k).toNat a k (rR a F)=sJ k (a,m0) F from rfl);clear ho row1 R1 R2 L1 X1 hX1 HRr2 ks l00 l01 l0f l1f r1 r2 fr1;go_wp2;obtain⟨w2,hw2⟩:=eY (w1.setCell ⟨pm,1,none⟩ (.slice s1 s2 s3));rw[←hw2] at HX2 HL2 HR2 K2 ⊢;have z2:wr.heap.size<w2.heap.size:=by have:=HX2.out.lt;omega
    clear hw2 q1 q2 q3 cr1 cr;obtain⟨wo,rfl⟩: ∃wo:World,wo=wr:=⟨_,rfl⟩;obtain⟨Y,hY⟩:=eY (wo.heap.size::w.heap.size::X);rw[←hY] at HR2;have HY:=ah hY;clear hY;go_loopg [71] 7 (fun gg _ wr'=>∃(q:Int) (F':List (Int×Int)) (vF':Value),(q-k).toNat<gg∧k≤q∧q≤6∧Hid (uZ Y wr' pm n vF' vT F' T)∧Hid (uM n F' T (a,q))∧Hid (tH (q-k).toNat a k F'=sJ k (a,m0) F)∧Hid (vV wr' wo.heap.size a q)∧Hid (vV wr' w.heap.size 0 0)∧Keep [pm] w wr')
    case atStart=>exact⟨m0,rR a F,_,om,hkx,om,HR2,ih,DF2,HX2,HL2,K2⟩
    case round=>
     clear hlt;obtain⟨q',F',vF',hgg,hkq,hq6,HRq,IHq,DFq,HXq,HLq,Kq⟩:=hrel;clear HX2 HL2 HR2 K2 DF2 ih;have x0:=HXq.out.c0;have x1:=HXq.out.c1;have x2:=HXq.out.f0;have x3:=HXq.out.f1;have xl:=HXq.out.lt;have zr:=Kq.size;by_cases hlt:k<q'
     ·have hcut:=uM.cut (n:=n) (F:=F') (T:=T) (a:=a) (k:=q'-1) om (by rw[show q'-1+1=q' by omega];exact IHq.out)
      have habs:=uM.absent (n:=n) (F:=F') (T:=T) (a:=a) (k:=q'-1) om (by rw[show q'-1+1=q' by omega];exact IHq.out);have hblk:=IHq.out.blk;have hlen:=rM IHq.out.fa (fun p hp=>IHq.out.rng (ak _ (av _ hp)));have hra:=IHq.out.rng (aG ..);simp only at hra;obtain⟨m1,m2,_⟩:=Nj (a:=a) (k:=q'-1) om om (by rw[show q'-1+1=q' by omega];exact hblk.2.2.2);have BO:=ah (fun w=>Qp a (q'-1) w hra.1 om om om m1);simp only[m2] at BO;have ks:Keep [wo.heap.size] wr ((wr.setCell ⟨wo.heap.size,0,none⟩ (.int .i64 a)).setCell ⟨wo.heap.size,1,none⟩ (.int .i64 (q'-1))):=(Keep.refl _ _).kH (.inl sI) _ _;have nop:wo.heap.size≠pm:=om;have R12:=HRq.out.keep ks (fun s hs=>by rw[bN.1 hs];exact .inl ⟨by rw[HY.out];simp,nop⟩);have X12:=HXq.out.store a (q'-1);have L12:=HLq.out.keep ks (by simp;omega);have K12:Keep [pm] w ((wr.setCell ⟨wo.heap.size,0,none⟩ (.int .i64 a)).setCell ⟨wo.heap.size,1,none⟩ (.int .i64 (q'-1))):=Kq.kH (b:=wo.heap.size) (.inr om) _ _;have CUT:=ah hcut;have ABS:=ah habs;have FA:=ah IHq.out.fa;clear hcut habs hblk hra m1 m2 IHq;go_wp2_with fail;obtain⟨w12,hw12⟩:=eY ((wr.setCell ⟨wo.heap.size,0,none⟩ (.int .i64 a)).setCell ⟨wo.heap.size,1,none⟩ (.int .i64 (q'-1)));rw[←hw12] at R12 X12 L12 K12 ⊢;clear hw12 ks x0 x1 x2 x3;have lp12:pm<w12.heap.size:=R12.lt;have lo12:wo.heap.size<w12.heap.size:=X12.lt;have BB0:Hid (∀w':World,Below w12.heap.size w12 w'→w'.cell? ⟨pm,1,none⟩=some vF'):=fun w' hb=>(hb.cell (p:=⟨pm,1,none⟩) lp12).trans R12.c1
      have BB1:Hid (∀w':World,Below w12.heap.size w12 w'→w'.cell? ⟨wo.heap.size,0,none⟩=some (.int .i64 a)):=fun w' hb=>(hb.cell (p:=⟨wo.heap.size,0,none⟩) lo12).trans X12.c0
      have BB2:Hid (∀w':World,Below w12.heap.size w12 w'→w'.cell? ⟨wo.heap.size,1,none⟩=some (.int .i64 (q'-1))):=fun w' hb=>(hb.cell (p:=⟨wo.heap.size,1,none⟩) lo12).trans X12.c1
      have BBF:Hid (∀w':World,Below w12.heap.size w12 w'→w'.frozen? ⟨pm,1,none⟩=false):=fun w' hb=>(hb.frozen (p:=⟨pm,1,none⟩) lp12).trans R12.f1
      have WI:Hid (∀w':World,Below w12.heap.size w12 w'→Calls Tryz.prog 170 #[vF',.agg #[.int .i64 (a+sz (q'-1)),.int .i64 (q'-1)]] w' fun e w''=>∃v',e= .returned v'∧Ns w' w'' v' (qh (a+sz (q'-1)) (q'-1) F')):=
       fun w' hb=>Uv vF' F' _ _ w' ((R12.below hb).rF.Qr) FA.out ABS.out hlen
      have y0:=R12.c1;have y1:=X12.c0;have y2:=X12.c1;go_region_with (first
       |(go_at_call 171;refine(BO.out _).mono ?_;rintro e wa ⟨rfl,hba⟩;have cba:Below w12.heap.size w12 wa:=((aO _ _).drew).trans (hba.mono sI);have xa0:=BB0.out _ cba;have xa1:=BB1.out _ cba;have xa2:=BB2.out _ cba)
       |(go_at_call 170;refine(WI.out _ cba).mono ?_;rintro e wb ⟨vb,rfl,hob⟩;obtain⟨t1,t2,t3,rfl⟩:=hob.isSlice;have cbb:Below w12.heap.size w12 wb:=cba.trans (hob.2.mono cba.size);have xb0:=BB0.out _ cbb;have xb1:=BB1.out _ cbb;have xb2:=BB2.out _ cbb;have xbf:=BBF.out _ cbb))
      all_goals
       have hXY: ∀y∈Y,y<wa.heap.size:=fun y hy=>by
        rw[HY.out] at hy;simp at hy;have:=cba.size;rcases hy with rfl|rfl|hy
        ·omega
        ·omega
        ·have:=HX.out y hy;omega
       have rowb:=y9.of hob hXY;have R13:=ah ((R12.below cbb).setF rowb);have k13:Keep [pm] w12 (wb.setCell ⟨pm,1,none⟩ (.slice t1 t2 t3)):=(Keep.of cbb).setCell (.inl sI) _;have X13:=ah (X12.keep k13 (by simpa using nop));have L13:=ah (L12.keep k13 (by simp;omega));have K13:=ah (K12.then k13);clear rowb k13 R12 X12 L12 hob hba cba cbb hXY;go_wp2;go_roundg ((q'-1-k).toNat+1)
       case measure=>omega
       case rel=>exact⟨q'-1,_,_,om,om,om,R13,CUT,(show tH _ _ _ _=_ by rw[←DFq.out,Uw hlt]),X13,L13,K13.out⟩
     ·have eq:q'=k:=by omega
      subst eq;have hF:F'=sJ q' (a,m0) F:=by have:=DFq.out;rwa [show(q'-q').toNat=0 by omega] at this
      have hne:=fun z hz=>IHq.out.other (z:=z) (aj F' hz)
      have hlen:=rM IHq.out.ta (fun p hp=>IHq.out.rng (ak _ (aj _ hp)));have NE:=ah hne;have TA:=ah IHq.out.ta;have R12:=HRq.out;have X12:=HXq.out;have L12:=HLq.out;rw[hF] at R12;have nop:wo.heap.size≠pm:=om;have now:w.heap.size≠pm:=om;have lp12:pm<wr.heap.size:=R12.lt;have BB0:Hid (∀w':World,Below wr.heap.size wr w'→w'.cell? ⟨pm,2,none⟩=some vT):=fun w' hb=>(hb.cell (p:=⟨pm,2,none⟩) lp12).trans R12.c2
      have BB1:Hid (∀w':World,Below wr.heap.size wr w'→w'.cell? ⟨wo.heap.size,0,none⟩=some (.int .i64 a)):=fun w' hb=>(hb.cell (p:=⟨wo.heap.size,0,none⟩) xl).trans X12.c0
      have BB2:Hid (∀w':World,Below wr.heap.size wr w'→w'.cell? ⟨wo.heap.size,1,none⟩=some (.int .i64 q')):=fun w' hb=>(hb.cell (p:=⟨wo.heap.size,1,none⟩) xl).trans X12.c1
      have BBF:Hid (∀w':World,Below wr.heap.size wr w'→w'.frozen? ⟨pm,2,none⟩=false):=fun w' hb=>(hb.frozen (p:=⟨pm,2,none⟩) lp12).trans R12.f2
      have WI:Hid (∀w':World,Below wr.heap.size wr w'→Calls Tryz.prog 170 #[vT,.agg #[.int .i64 a,.int .i64 q']] w' fun e w''=>∃v',e= .returned v'∧Ns w' w'' v' (qh a q' T)):=
       fun w' hb=>Uv vT T _ _ w' ((R12.below hb).rT.Qr) TA.out NE.out hlen
      have y0:=R12.c2;have hnl: ¬q'<q':=om;clear hne hF IHq DFq x2 x3;go_wp2_with fail;go_region_with (first
       |(go_at_call 170;refine(WI.out _ ((aO _ _).drew)).mono ?_;rintro e wb ⟨vb,rfl,hob⟩;obtain⟨t1,t2,t3,rfl⟩:=hob.isSlice;have cbb:Below wr.heap.size wr wb:=((aO _ _).drew).trans (hob.2.mono sI);have xb0:=BB0.out _ cbb;have xb1:=BB1.out _ cbb;have xb2:=BB2.out _ cbb;have xbf:=BBF.out _ cbb))
      all_goals
       have hXY: ∀y∈Y,y<wr.drew.heap.size:=fun y hy=>by
        rw[HY.out] at hy;simp at hy ⊢;rcases hy with rfl|rfl|hy
        ·omega
        ·omega
        ·have:=HX.out y hy;omega
       have rowb:=y9.of hob hXY;have R13:=(R12.below cbb).setT rowb;have k13:Keep [pm] wr (wb.setCell ⟨pm,2,none⟩ (.slice t1 t2 t3)):=(Keep.of cbb).setCell (.inl sI) _;have X13:=X12.keep k13 (by simpa using nop);have L13:=L12.keep k13 (by simpa using now);have K13:=Kq.then k13;obtain⟨w13,hw13⟩:=eY (wb.setCell ⟨pm,2,none⟩ (.slice t1 t2 t3));rw[←hw13] at R13 X13 L13 K13 ⊢;have z0:=X13.c0;have z1:=X13.c1;have l0:=L13.c0;have l1:=L13.c1;have l2:=L13.f0;have l3:=L13.f1;have ks:Keep [w.heap.size] w13 ((w13.setCell ⟨w.heap.size,0,none⟩ (.int .i64 a)).setCell ⟨w.heap.size,1,none⟩ (.int .i64 q')):=(Keep.refl _ _).kH (.inl sI) _ _;have R14:=(R13.keep ks (fun s hs=>by rw[bN.1 hs];exact .inl ⟨by rw[HY.out];simp,now⟩)).sub pmX (fun x hx=>by rw[HY.out];simp[hx]);have HR14:=ah R14;have L14:=L13.store a q';have e0:=L14.c0;have e1:=L14.c1;have K14:=ah (K13.kH (b:=w.heap.size) (.inr (aH _)) (.int .i64 a) (.int .i64 q'));clear rowb R12 X12 L12 hob cbb hXY R13 X13 L13 R14 L14 hw13 ks k13;go_wp2;have e2:=jY (.int .i64 a) l0;exact bodyPost_ret (v:=.tuple #[.agg #[.int .i64 a,.int .i64 q'],.bool true]) (by simp[e0,e1,e2,results,Tryz.results142,go_sem]) rfl (Or.inr ⟨(a,m0),_,_,HBE.out,rfl,HR14.out,K14.out⟩)
theorem Io {X:List Nat} (n:Int) (w:World) (n1:1≤n) (n2:n≤256) (hX: ∀x∈X,x<w.heap.size):
 Calls Tryz.prog 92 #[.int .i64 n] w fun e w'=>∃pm v,e= .returned (.pointer (some ⟨pm,0,none⟩))∧uZ (pm::X) w' pm n v (.slice none 0 0) (uH 0 n) []∧w.heap.size≤pm∧Below w.heap.size w w':=by
 have HC:=ah (Qv 0 n w om om om);have HX:=ah hX;clear hX;go_enter Tryz.func92,Tryz.ntmps92;go_wp2_with fail;refine HC.out.mono ?_;rintro e w1 ⟨v,rfl,ho⟩;have z1:=ho.2.size;have hb1:=ho.2;have row:=y9.of ho HX.out;obtain⟨t1,t2,t3,rfl⟩:=ho.isSlice;have HR:=ah row;clear row ho HC;go_wp2;go_ret;refine⟨_,.slice t1 t2 t3,rfl,⟨sI,sI,?_,?_,?_,?_,?_,?_,.inl ⟨rfl,rfl⟩⟩,z1,jK⟩
 ·rw[aZ _ _ _ _ sI];rfl
 ·rw[aZ _ _ _ _ sI];rfl
 ·rw[aZ _ _ _ _ sI];rfl
 ·exact cZ _ _ _ _ sI
 ·exact cZ _ _ _ _ sI
 ·exact(HR.out.more (Y:=w1.heap.size::X) (fun y hy=>by simp at hy;rcases hy with rfl|hy;(·right;omega);(·left;exact hy))).keep ((Keep.refl [] _).alloc _) (fun s hs=>by cases hs)
theorem Uy {F:List (Int×Int)} {i:Nat} {z:Int×Int} (h:F[i]?=some z):nI (F.take (i+1))=nI (F.take i)+sz z.2:=by
 rw[bT,h];show nI (F.take i++[z])=_;rw[wB];simp[nI]
theorem yC (F:List (Int×Int)) (i:Nat):0≤nI (F.take i)∧nI (F.take i)≤nI F:=by
 have h:=wB (F.take i) (F.drop i);rw[bX] at h;have:=nZ (F.take i);have:=nZ (F.drop i);omega
theorem FV {X:List Nat} (pm:Nat) (n:Int) (vF vT:Value) (F T:List (Int×Int)) (w:World) (h:uZ X w pm n vF vT F T) (hI:Inv n F T):
 Calls Tryz.prog 143 #[.pointer (some ⟨pm,0,none⟩)] w fun e w'=>e= .returned (.int .i64 (nI F))∧Below w.heap.size w w':=by
 have c1:=h.c1;have lp:=h.lt;have lF:=hI.lenF;have sF:=hI.sumF;have n2:=hI.n2;have HI:=ah hI;have h': ∃p cap,vF= .slice p F.length cap∧Hid (∀j a k,F[j]?=some (a,k)→∃g,p=some ⟨g,0,none⟩∧g<w.heap.size∧w.cell? ⟨g,j*2+1,none⟩=some (.int .i64 k)):=by
  rcases h.rF with⟨rfl,rfl⟩|⟨g,cap,rfl,_,_,_,hg,hc⟩
  ·exact⟨none,0,rfl,fun j a k hj=>by simp at hj⟩
  ·exact⟨_,cap,rfl,fun j a k hj=>⟨g,rfl,hg,(hc j a k hj).2⟩⟩
 obtain⟨p,cap,rfl,HP0⟩:=h';obtain⟨N,hN⟩:=eY F.length;have HN:=ah hN;rw[←hN] at lF c1;clear h hI hN;go_enter Tryz.func143,Tryz.ntmps143;go_wp2_with fail;go_loopw [3,4] (fun sv iv wr=>∃i:Nat,i≤N∧iv= .int .i64 i∧sv= .int .i64 (nI (F.take i))∧Below w.heap.size w wr) (fun _ iv _=>N-(intOf iv).toNat);case atStart=>exact⟨0,bq _,by go_num,by simp[nI],aO _ _⟩
 case round=>
  obtain⟨i,hi,rfl,rfl,hbel⟩:=hrel;have hsb:=yC F i;have zr:=hbel.size;have cr:=(hbel.cell (p:=⟨pm,1,none⟩) lp).trans c1;have lpr:pm<wr.heap.size:=om;by_cases hlt:i<N
  ·obtain⟨y,hy⟩: ∃y,F[i]?=some y:=⟨F[i]'(by rw[←HN.out];exact hlt),aA _⟩
   obtain⟨a,k⟩:=y;obtain⟨g,rfl,hg,r2'⟩:=HP0.out i a k hy;have r2:=(hbel.cell (p:=⟨g,i*2+1,none⟩) hg).trans r2';have gr:g<wr.heap.size:=om;have hst:=Uy hy;have hrg:=HI.out.rngF (aF hy);have hsb2:=yC F (i+1);simp only at hrg hst;obtain⟨s1,s2⟩:=vZ hrg.2.2.1 hrg.2.2.2;have PA:=ah (fun w=>qB k w hrg.2.2.1 om);have ST:=ah hst;clear hy hst r2';go_wp2_with (go_at_call 153;refine(PA.out _).mono ?_;rintro e w' ⟨rfl,rfl⟩);go_roundw;case rel=>exact⟨i+1,om,by go_num,by rw[ST.out],hbel⟩
   case measure=>simp[intOf];omega
  ·have ei:i=N:=by omega
   have hfin:nI (F.take i)=nI F:=by rw[ei,HN.out,bU]
   have HF:=ah hfin;clear hfin ei;go_wp2;go_ret;exact⟨by simp[HF.out],hbel⟩
theorem Oo {base:Nat} {v:Value} {l m:List (Int×Int)} {w:World} {p:Option Addr} {c:Nat} {ops:Array Oper} {o:Oper} {a:Act} {K:Act→World→Prop} {Q:Exit→Act→World→Prop} {F:Prop} (hgd:o.guard=none) (s x:Operand)
 (ho:o.op= .call {callee:=.builtin .append,args:=#[s,x],argTypes:=#[235,235]}) (hv:a.eval s=v) (mn:Nat) (hx:a.eval x= .slice p mn c) (hmn:m.length=mn)
 (hown:w.ownsRow base 213 2 v l.length (kG l)) (hs:Src w p m) (hl:l.length+m.length≤65536) (hb:base≤w.heap.size)
 (h: ∀q k w',w'.ownsRow base 213 2 (.slice q (l++m).length k) (l++m).length (kG (l++m))→w.grownBy w' v.ownBlock→K (a.put o.dst (.slice q (l++m).length k)) w'):
 if Region.wanted o (yielded ops a.tmps)=true then Oper.wp Tryz.prog o a w K Q else F:=by
 subst hmn;have hw:Region.wanted o (yielded ops a.tmps)=true:=by simp[Region.wanted,hgd]
 rw[if_pos hw];obtain⟨v',w',hrun,h2,h3⟩:=SQ (w:=w) o.type hown hs hl hb (c:=c);have hf: ∃q k,v'= .slice q (l++m).length k:=by
  rcases h2.2 with⟨e,e2⟩|⟨g',cap',cur,e,_⟩
  ·exact⟨none,0,by rw[e,e2]⟩
  ·exact⟨_,_,e⟩
 obtain⟨q,k,rfl⟩:=hf;unfold Oper.wp execOp;simp only[ho,resolve,invoke,builtin,fA,fI,dS,dZ,bP,dW,hv,hx,hrun];exact h q k w' h2 h3
theorem y9.src {X:List Nat} {w:World} {v:Value} {l:List (Int×Int)} (h:y9 X w v l): ∃p c,v= .slice p l.length c∧Src w p l:=by
 rcases h with⟨rfl,rfl⟩|⟨g,cap,rfl,_,_,_,_,hc⟩
 ·exact⟨none,0,rfl,.inl ⟨rfl,rfl⟩⟩
 ·exact⟨some ⟨g,0,none⟩,cap,rfl,.inr ⟨g,0,rfl,fun j a k hj=>by simpa using hc j a k hj⟩⟩
def OwnPost (X:List Nat) (n:Int) (F T:List (Int×Int)) (w:World) (e:Ending) (w':World):Prop:=
 ∃(m:Nat) (vF vT:Value),e= .returned (.pointer (some ⟨m,0,none⟩))∧uZ (m::X) w' m n vF vT F T∧w.heap.size≤m∧Below w.heap.size w w'
theorem own_ok {X:List Nat} (pm:Nat) (n:Int) (vF vT:Value) (F T:List (Int×Int)) (w:World) (h:uZ X w pm n vF vT F T) (hX: ∀x∈X,x<w.heap.size) (hF:F.length≤256) (hT:T.length≤256):
 Calls Tryz.prog 141 #[.pointer (some ⟨pm,0,none⟩)] w (OwnPost X n F T w):=by
 have c0:=h.c0;have c1:=h.c1;have c2:=h.c2;have lp:=h.lt;obtain⟨pF,kF,rfl,sF⟩:=h.rF.src;obtain⟨pT,kT,rfl,sT⟩:=h.rT.src;have SF:Hid (∀W,Keep [] w W→Src W pF F):=fun W k=>by
  obtain⟨p,c,e,s⟩:=(h.rF.keep k (fun s q=>by cases q)).src;injection e with e1 _ _;rw[e1];exact s
 have ST:Hid (∀W,Keep [] w W→Src W pT T):=fun W k=>by
  obtain⟨p,c,e,s⟩:=(h.rT.keep k (fun s q=>by cases q)).src;injection e with e1 _ _;rw[e1];exact s
 have ST5:Hid (∀W,Below w.heap.size w W→Src W pT T):=fun W k=>ST.out W (Keep.of k)
 have L0:=ah (jD.mk_ w [.int .i64 n,.slice none 0 0,.slice none 0 0] 242 rfl);have hbw:Hid (Below w.heap.size w (w.alloc (.cells #[.int .i64 n,.slice none 0 0,.slice none 0 0] 242)).drew):=jK;clear h sF sT;go_enter Tryz.func141,Tryz.ntmps141;go_wp2_with fail;go_region_law (refine Oo (base:=w.heap.size+1) (v:=.slice none 0 0) (l:=[]) (m:=F) rfl (.tmp 14) (.tmp 18) rf rf F.length rf rfl (aT _ _ _ _) (SF.out _ (kep (Keep.refl _ _))) (by simp;omega) sI ?_;intro q1 k1 w4 jV hg4;have B4:Below (w.heap.size+1) _ w4:=(aO _ _).grown hg4 sI (fun r hr=>by simp[Value.ownBlock] at hr);have M4:=(L0.out.lT).below B4 om;have x1:=M4.gC 1;have x2:=M4.gC 2;have f1:=M4.f 1 sI;have f2:=M4.f 2 sI;have ml:=M4.lt)
 all_goals
  have K4:Below w.heap.size w w4:=hbw.out.trans (B4.mono om);have z4:=B4.size;simp at z4;have HM4:=ah (M4.store 1 (.slice q1 F.length k1) sI);have hlt4:=ml;have D2:=(K4.cell (p:=⟨pm,2,none⟩) lp).trans c2;have HR4:=ah (show y9 (w.heap.size::X) w4 (.slice q1 F.length k1) F from y9.of (w:=(w.alloc (.cells #[.int .i64 n,.slice none 0 0,.slice none 0 0] 242)).drew) ⟨by simpa using jV,by simpa using B4⟩ (fun x hx=>by simp at hx;rcases hx with rfl|hx;(·simp);(·have:=hX x hx;simp;omega)));clear M4 jV hg4 x1 x2 f1 f2 ml;go_wp2_with fail;obtain⟨w5,hw5⟩:=eY (w4.setCell ⟨w.heap.size,1,none⟩ (.slice q1 F.length k1));rw[←hw5];have ks:Keep [w.heap.size] w4 w5:=by rw[hw5];exact(Keep.refl _ _).setCell (p:=⟨w.heap.size,1,none⟩) (.inl sI) _
  have z5:w5.heap.size=w4.heap.size:=by rw[hw5];simp[World.setCell]
  rw[←hw5] at HM4;have N5:=HM4.out;have x0:=N5.gC 0;have x1:=N5.gC 1;have x2:=N5.gC 2;have xl:=N5.lt;have g2:=N5.f 2 sI;have d2:=(ks.cell (b:=pm) (o:=2) om (by simp;omega)).trans D2;have K5:Below w.heap.size w w5:=K4.trans (ks.below om (fun s hs=>by simp at hs;omega));have HR5:=ah (HR4.out.keep ks (fun s hs=>.inl (by simp at hs;simp[hs])));have HK5:=ah K5;have SK:Hid (∀W,Keep [] w5 W→Src W pT T):=fun W k=>ST5.out W (HK5.out.trans (k.qU.mono K5.size))
  have lp5:pm<w5.heap.size:=om;clear hw5 ks D2 HR4 K4 B4 N5;go_region_law (refine Oo (base:=w5.heap.size) (v:=.slice none 0 0) (l:=[]) (m:=T) rfl (.tmp 26) (.tmp 30) rf rf T.length rf rfl (aT _ _ _ _) (SK.out _ (kep (Keep.refl _ _))) (by simp;omega) sI ?_;intro q2 k2 w6 hown6 hg6;have B6:Below w5.heap.size _ w6:=(aO _ _).grown hg6 sI (fun r hr=>by simp[Value.ownBlock] at hr);have M6:=(HM4.out.lT).below B6 om;have y1:=M6.gC 1;have y2:=M6.gC 2;have h1:=M6.f 1 sI;have h2:=M6.f 2 sI;have yl:=M6.lt)
  all_goals
   have HM6:=ah (M6.store 2 (.slice q2 T.length k2) sI);have z6:=B6.size;simp at z6;have K6:Below w.heap.size w w6:=HK5.out.trans ((fU (aO _ _).drew B6).mono K5.size);have HR6:=ah (HR5.out.keep (Keep.of (fU (aO _ _).drew B6):Keep [] w5 w6) (fun s hs=>by cases hs));have HT6:=ah (show y9 (w.heap.size::X) w6 (.slice q2 T.length k2) T from y9.of (w:=w5.drew) ⟨by simpa using hown6,by simpa using B6⟩ (fun x hx=>by simp at hx;rcases hx with rfl|hx;(·simpa using xl);(·have:=hX x hx;simp;omega)));clear M6 hown6 hg6;go_wp2;go_ret;have ks:Keep [w.heap.size] w6 (w6.setCell ⟨w.heap.size,2,none⟩ (.slice q2 T.length k2)):=(Keep.refl _ _).setCell (p:=⟨w.heap.size,2,none⟩) (.inl sI) _;refine⟨w.heap.size,.slice q1 F.length k1,.slice q2 T.length k2,rfl,⟨HM6.out.lt,sI,HM6.out.gC 0,HM6.out.gC 1,HM6.out.gC 2,HM6.out.f 1 sI,HM6.out.f 2 sI,HR6.out.keep ks (fun s hs=>.inl (by simp at hs;simp[hs])),HT6.out.keep ks (fun s hs=>.inl (by simp at hs;simp[hs]))⟩,aH _,K6.trans (ks.below om (fun s hs=>by simp at hs;omega))⟩
end Go.Proofs.YtehhldljdakgeaaGreatDoor
