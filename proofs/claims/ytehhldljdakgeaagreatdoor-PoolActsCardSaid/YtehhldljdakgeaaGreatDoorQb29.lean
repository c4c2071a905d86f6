/- Lemmas. -/
import Derived.Test.YtehhldljdakgeaaGreatDoorQb01
import Derived.Test.YtehhldljdakgeaaGreatDoorQb28
set_option linter.unusedSimpArgs false
set_option linter.unusedVariables false
set_option maxHeartbeats 16000000
set_option maxRecDepth 100000
namespace Go.Proofs.YtehhldljdakgeaaGreatDoor
open Go.RowKit Go.Maps Go.Proofs.Tryz
attribute [local go_sem ↓] aJ aK
theorem Ct: ∀{l:List Ob} {i:Nat} {o:Ob},l[i]?=some o→(∀(j:Nat) (x:Ob),j<i→l[j]?=some x→x≠o)→l.erase o=l.eraseIdx i
 |[],i,o,h,_=>by simp at h
 |a::l,0,o,h,_=>by simp at h;subst h;simp
 |a::l,i+1,o,h,hn=>by
  have ha:=hn 0 a om rfl;rw[List.erase_cons_tail (by simpa using ha),jm,Ct (by simpa using h) (fun j x hj hx=>hn (j+1) x om (by simpa using hx))]
section
variable {pd e:Nat} {mn:Int} {O:List (List Int)} {w0:World} {E:vC pd e mn O w0} {X F:List Nat} {w:World} {pq:Nat} {p:Po}
theorem giveP_0 {e:Nat} {p:Po} {k:Int} {o:Ob} (hc:p.cl=false) (hw:mG p k=true) (hT:o∉p.T):lZ e p k o=(p,9):=by
 unfold lZ;rw[if_neg (by simp[hc]),if_neg (by simp[hw]),if_neg hT]
theorem giveP_1 {e:Nat} {p:Po} {k t:Int} {o:Ob} {W':List Int} (hc:p.cl=false) (hw:mG p k=true) (hT:o∈p.T) (hW:p.W=t::W'):lZ e p k o=(⟨p.d,p.most,p.R,p.T.erase o,W',p.G++[(t,o)],p.last,p.cl⟩,0):=by
 unfold lZ Cj;rw[if_neg (by simp[hc]),if_neg (by simp[hw]),if_pos hT];simp only[hW]
theorem giveP_2 {e:Nat} {p:Po} {k:Int} {o:Ob} (hc:p.cl=false) (hw:mG p k=true) (hT:o∈p.T) (hW:p.W=[]) (hR:p.R.length<p.most):lZ e p k o=(⟨p.d,p.most,p.R++[o],p.T.erase o,p.W,p.G,p.last,p.cl⟩,0):=by
 unfold lZ Cj;rw[if_neg (by simp[hc]),if_neg (by simp[hw]),if_pos hT];simp only[hW];rw[if_pos hR]
theorem giveP_3 {e:Nat} {p:Po} {k:Int} {o:Ob} {d':De} {cc:Nat} (hc:p.cl=false) (hw:mG p k=true) (hT:o∈p.T) (hW:p.W=[]) (hR: ¬p.R.length<p.most) (hd:(d',cc)=lI e p.d k o):lZ e p k o=(⟨d',p.most,p.R,p.T.erase o,p.W,p.G,p.last,p.cl⟩,cc):=by
 unfold lZ Cj;rw[if_neg (by simp[hc]),if_neg (by simp[hw]),if_pos hT];simp only[hW];rw[if_neg hR,←hd]
theorem rpgive_A (k:Int) (o:Ob) (h:rO E X F pq p w) (hc:p.cl=true):
 Calls prog 16 #[.pointer (some ⟨pq,0,none⟩),.int .i64 k,.agg #[.int .i64 o.1,.int .i64 o.2]] w (EPost (jX E pq).S X F p w (.int .i64 4)):=by
 obtain⟨⟨vr,vt,vw,vg,q⟩,hi⟩:=h;have R1:=(pI.start q).box (bO o);have HI:=ah hi;have c7:=R1.at_.b.c.gC 7;have c0:=R1.at_.b.c.gC 0;have cl:=R1.at_.b.c.lt;rw[hc] at c7;have WK0:=E.work k R1.at_.s;have LB:=(show jR (w.alloc (bO o)) w.heap.size [.int .i64 o.1,.int .i64 o.2] from jR.mk_ w [.int .i64 o.1,.int .i64 o.2] 40 rfl);obtain⟨W1,hW1⟩:=eX (w.alloc (bO o));rw[hW1] at R1 c7 c0 cl LB WK0;have HR1:=ah R1;have HLB:=ah LB;clear q hi hc R1 LB WK0 c0;go_in
 unfold bO at hW1;go_wp2;go_ret;exact HR1.out.fin HI.out
theorem rpgive_B (k:Int) (o:Ob) (h:rO E X F pq p w) (hc:p.cl=false) (hw:mG p k=false):
 Calls prog 16 #[.pointer (some ⟨pq,0,none⟩),.int .i64 k,.agg #[.int .i64 o.1,.int .i64 o.2]] w (EPost (jX E pq).S X F p w (.int .i64 2)):=by
 obtain⟨⟨vr,vt,vw,vg,q⟩,hi⟩:=h;have R1:=(pI.start q).box (bO o);have HI:=ah hi;have c7:=R1.at_.b.c.gC 7;have c0:=R1.at_.b.c.gC 0;have cl:=R1.at_.b.c.lt;rw[hc] at c7;have WK0:=E.work k R1.at_.s;have LB:=(show jR (w.alloc (bO o)) w.heap.size [.int .i64 o.1,.int .i64 o.2] from jR.mk_ w [.int .i64 o.1,.int .i64 o.2] 40 rfl);obtain⟨W1,hW1⟩:=eX (w.alloc (bO o));rw[hW1] at R1 c7 c0 cl LB WK0;have HR1:=ah R1;have HLB:=ah LB;unfold mG at hw;rw[hw] at WK0;have WK:=ah WK0;clear q hi hc R1 LB WK0 hw;go_in
 unfold bO at hW1;go_wp2_with fail;clear hW1;refine WK.out.mono ?_;rintro r w2 ⟨rfl,hw2⟩;obtain rfl:=hw2.symm;go_wp2;go_ret;exact HR1.out.fin HI.out
theorem rpgive_D (k:Int) (o:Ob) (h:rO E X F pq p w) (hc:p.cl=false) (hw:mG p k=true) {p':Po} {cc:Nat} (hg:lZ e p k o=(p',cc)) (hP:nX e p'):
 Calls prog 16 #[.pointer (some ⟨pq,0,none⟩),.int .i64 k,.agg #[.int .i64 o.1,.int .i64 o.2]] w (EPost (jX E pq).S X F p' w (.int .i64 cc)):=by
 have HG:=ah hg;have HP:=ah hP;have HC:=ah hc;have HWK:=ah hw;have HGF:=ah h.2.Jh.2;have HWL:=ah h.2.w;have HR16:Hid (p.R.length≤16):=by have h1:=h.2.r;have h2:=h.2.m1.2;exact bW h1 h2
 clear hg hP;obtain⟨⟨vr,vt,vw,vg,q⟩,hi⟩:=h;have R1:=(pI.start q).box (bO o);have HI:=ah hi;have c7:=R1.at_.b.c.gC 7;have c0:=R1.at_.b.c.gC 0;have cl:=R1.at_.b.c.lt;rw[hc] at c7;have WK0:=E.work k R1.at_.s;have LB:=(show jR (w.alloc (bO o)) w.heap.size [.int .i64 o.1,.int .i64 o.2] from jR.mk_ w [.int .i64 o.1,.int .i64 o.2] 40 rfl);obtain⟨W1,hW1⟩:=eX (w.alloc (bO o));rw[hW1] at R1 c7 c0 cl LB WK0;have HR1:=ah R1;have HLB:=ah LB;obtain⟨qw,kw,rfl⟩:=l6 q.b.ow;obtain⟨qg,kg,rfl⟩:=l6 q.b.g;obtain⟨qr,kr,rfl⟩:=l6 q.b.r;unfold mG at hw;rw[hw] at WK0;have WK:=ah WK0;obtain⟨qt,kt,rfl⟩:=l6 q.b.t;have HTF:=ah hi.Jh.1;obtain⟨n,hn⟩:=eY p.T.length;have HN:=ah hn;have hn6:n≤65536:=by rw[hn];exact HTF.out
 have N6:=ah hn6;clear q hi hc R1 LB WK0 hw hn hn6;go_in
 unfold bO at hW1;go_wp2_with fail;clear hW1;refine WK.out.mono ?_;rintro r w2 ⟨rfl,hw2⟩;obtain rfl:=hw2.symm;clear WK;go_wp2_with fail;clear c7 c0 cl;go_loopw [8] (fun kv wr=>∃i:Nat,i≤n∧kv= .int .i64 i∧Hid (pI E pq X F w [w.heap.size] (w.heap.size::X) (.slice qr p.R.length kr) (.slice qt p.T.length kt) (.slice qw p.W.length kw) (.slice qg p.G.length kg) p wr)∧Hid (jR wr w.heap.size [.int .i64 o.1,.int .i64 o.2])∧Hid (∀(j:Nat) (x:Ob),j<i→p.T[j]?=some x→x≠o)) (fun kv _=>n-(intOf kv).toNat);case atStart=>exact⟨0,bq _,by go_num,HR1,HLB,fun j x hj=>om⟩
 case round=>
  obtain⟨i,hin,rfl,HR,HL,HNO⟩:=hrel;clear HR1 HLB;have c3:=HR.out.at_.b.c.gC 3;have cl:=HR.out.at_.b.c.lt;have hOT:wr.ownsRow w0.heap.size 40 2 (.slice qt p.T.length kt) p.T.length (l8 p.T):=HR.out.at_.b.t;rw[←HN.out] at c3;have m0:=HL.out.gC 0;have m1:=HL.out.gC 1;have ml:=HL.out.lt;have n6':=N6.out;have eb:=neqO;have gb:=wQ;by_cases hlt:i<n
  ·obtain⟨x,hx⟩: ∃x,p.T[i]?=some x:=⟨p.T[i]'(by rw[←HN.out];exact hlt),aA _⟩
   obtain⟨g,eg,g1,g2,gl,gb',y0,y1,_,_⟩:=AQ hOT hx;subst eg;unfold maxLen at g2;have hli:(i:Int)<(n:Int):=om;have hl0:(0:Int)≤(i:Int):=om;have d0:decide ((i:Int)<(n:Int))=true:=dQt hli;have HXX:=ah hx;clear hOT hx g1 gb';cases hq:(x.1==o.1&&x.2==o.2) with
   |false=>
    have hxo:Hid (x≠o):=fun q=>by subst q;simp at hq
    go_wp2_with fail;go_quiet (fail);go_wp2;go_roundw;case rel=>exact⟨i+1,om,by go_num,HR.out.go jY,HL.out.go jY,fun j y hj hy=>by
     rcases dP.1 hj with q|q
     ·exact HNO.out j y q hy
     ·subst q;rw[HXX.out] at hy;obtain rfl:=aO hy;exact hxo.out⟩
    case measure=>simp[intOf];omega
   |true=>
    have hxo:x=o:=by simp at hq;exact Prod.ext hq.1 hq.2
    have ER:Hid (p.T.eraseIdx i=p.T.erase o):=(Ct (hxo▸HXX.out) HNO.out).symm;have HTT:=ah (show o∈p.T from hxo▸aF HXX.out);have d1:((i:Int)==(n:Int))=false:=by simp;omega
    have hn1:Hid (n-1=(p.T.erase o).length):=by show n-1=_;rw[←ER.out,iU (by rw[←HN.out];exact hlt),←HN.out]
    clear hxo;go_wp2_with fail;go_quiet (fail);rename_i nq;obtain⟨w2,hw2⟩:=eX (wr.drewN nq);have hb2:Below wr.heap.size wr w2:=by rw[←hw2];exact below_drewN (aL _ _) _
    try rw[hw2]
    clear hw2 y0 y1 gl;have HR2:=ah (HR.out.go hb2);have HL2:=ah (HL.out.go hb2);clear hb2 c3 cl m0 m1 ml;have c3:=HR2.out.at_.b.c.gC 3;have cf:=HR2.out.at_.b.c.f 3 (by simp[jV]);have cl:=HR2.out.at_.b.c.lt;rw[←HN.out] at c3;have WO0:=Xg _ p.T i w2 HR2.out.at_.b.t (by have:=HTF.out;omega) (by rw[←HN.out];exact hlt);rw[ER.out,←HN.out] at WO0;have WO:=ah WO0;clear WO0;go_wp2_with fail;refine WO.out.mono ?_;rintro r w3 ⟨q3,k3,rfl,hown3,hb3⟩;have v3:=(hb3.cell (p:=⟨pq,3,none⟩) cl).trans c3;have vf:=(hb3.frozen (p:=⟨pq,3,none⟩) cl).trans cf;have vl:=aC cl hb3.size;obtain⟨w4,hw4⟩:=eX (w3.setCell ⟨pq,3,none⟩ (.slice q3 (n-1) k3));obtain⟨⟨X4,R4⟩,K4⟩:=HR2.out.Sg (T':=p.T.erase o) (Keep.of hb3) (by have:=(E.bel HR2.out.at_.s).size;exact this) hown3 hn1.out (fun y hy=>.inr (jZ hown3 hy).1) hw4.symm;have L4:=HL2.out.keep K4 (fun r=>HR2.out.nL (b:=w.heap.size) sI (jU.2 ((aB.1 r).imp id fun u=>.inr (.inl u))));have HR4:=ah R4;have HL4:=ah L4;clear R4 L4 K4 hown3 hb3 WO HR2 HL2 c3 cf cl HR HL HXX HNO;have hWW:p.W=[]∨∃t W',p.W=t::W':=by cases p.W;exact .inl rfl;exact .inr ⟨_,_,rfl⟩
    rcases hWW with hW|⟨t,W',hW⟩
    ·have HW0:Hid (p.W.length=0):=by show _=_;rw[hW];rfl
     have HWC:=ah hW;clear hW;have c4:=HR4.out.at_.b.c.gC 4;have c4l:=HR4.out.at_.b.c.lt;rw[HW0.out] at c4;go_wp2_with fail;clear hw4 v3 vf vl;have c2:=HR4.out.at_.b.c.gC 2;have f2:=HR4.out.at_.b.c.f 2 (by simp[jV]);have c1:=HR4.out.at_.b.c.gC 1;obtain⟨m,hm⟩:=eY p.R.length;have HM:=ah hm;obtain⟨M,hM⟩:=eY p.most;have hmf:m≤16:=by rw[hm];exact HR16.out
     rw[show(⟨p.d,p.most,p.R,p.T.erase o,p.W,p.G,p.last,p.cl⟩:Po).most=p.most from rfl,←hM] at c1;rw[←hm] at c2;have m0:=HL4.out.gC 0;have m1:=HL4.out.gC 1;have ml:=HL4.out.lt;by_cases hR:p.R.length<p.most
     ·obtain⟨rfl,rfl⟩:=Prod.mk.inj (HG.out.symm.trans (giveP_2 HC.out HWK.out HTT.out HWC.out hR))
      have hOR:w4.ownsRow w0.heap.size 40 2 (.slice qr p.R.length kr) p.R.length (l8 p.R):=HR4.out.at_.b.r;have hnp:=(mZ.1 HR4.out.at_.b.nd).1.1;have n9:w.heap.size∉jS (.slice qr p.R.length kr):=fun r=>HR4.out.nL (b:=w.heap.size) sI (jU.2 (.inr (.inl r)))
      have BZ:Hid (w0.heap.size≤w4.heap.size):=(E.bel HR4.out.at_.s).size;have hR':=hR;rw[←hm] at hOR hnp n9;rw[←hm,←hM] at hR';have d9:decide ((m:Int)<(M:Int))=true:=dQt om;have d9':decide (m<M)=true:=dQt hR';clear hm hM hR;refine kG kR kR ?_;repeat(go_big_quiet_step (fail))
      refine wpQuiet_nil ?_;intro w5 hw';have hb5:=lN hw';clear hw';have z5:=hb5.size;try simp at z5
      have HR5:=ah (HR4.out.go hb5);have HL5:=ah (HL4.out.go hb5);have HOR:Hid (w5.ownsRow w0.heap.size 40 2 (.slice qr m kr) m (l8 p.R)):=jQ hOR (Keep.of (S:=[]) hb5) (fun s r=>by cases r);have BZ5:Hid (w0.heap.size≤w5.heap.size):=by show _≤_;have:=BZ.out;have:=hb5.size;omega
      have HNP:=ah hnp;have HN9:=ah n9;clear c2 f2 c1 m0 m1 ml c4 c4l hOR hnp n9 hb5;have c2:=HR5.out.at_.b.c.gC 2;have f2:=HR5.out.at_.b.c.f 2 (by simp[jV]);have c4l:=HR5.out.at_.b.c.lt;rw[←HM.out] at c2;have m0:=HL5.out.gC 0;have m1:=HL5.out.gC 1;have ml:=HL5.out.lt;go_wp2_with fail;refine kE (S:=(fun w'=>w'.cell? ⟨pq,2,none⟩=some (.slice qr m kr)∧w'.cell? ⟨w.heap.size,0,none⟩=some (.int .i64 o.1)∧w'.cell? ⟨w.heap.size,1,none⟩=some (.int .i64 o.2))) 7 #[false,false,false,false,false,false,false] rfl kR kR (by(try dsimp only);go_keep) (fun hHeld=> ?_);simp only[aQ,aV];refine tk 0 ?_;refine tk 1 ?_;refine tk 2 ?_;refine tk 3 ?_;refine tk 4 ?_;refine wpAnyH_ready (rs:=[5]) kR sI ?_;refine aR (jT rfl) (fun K hK=> ?_) aX;go_simp
      refine hkO hK fun hHeld=> ?_
      clear hK K;refine wpAnyH_ready (rs:=[6]) kR sI ?_;refine aR (jT rfl) (fun K hK=> ?_) aX;refine oI uh (base:=w0.heap.size) (v:=.slice qr m kr) (n:=m) (ms:=[.int .i64 o.1,.int .i64 o.2]) rf (.tmp 104) (.tmp 106) rf rf rf ((HOR.out.alloc _).drew) rfl (fun j u hj=>oK w5 _ _ _ j u hj) (oL _ _) om (by have:=BZ5.out;simp;omega) ?_;intro q6 k6 w6 hown6 hg6 hz6;have K6:Keep (jS (.slice qr m kr)) w5 w6:=(show Keep (jS (.slice qr m kr)) w5 ((w5.alloc (.cells #[.int .i64 o.1,.int .i64 o.2] 40)).drew) from Keep.of jY).then (kJ hg6);have hz: ∀y∈jS (.slice q6 (m+1) k6),y∈jS (.slice qr m kr)∨w5.heap.size≤y:=fun y hy=>by
       rcases oM hz6 y hy with r|r
       ·exact .inl r
       ·exact .inr (by simp at r;omega)
      have u2:=(K6.cell (o:=2) c4l HNP.out).trans c2;have uf:=(K6.frozen (o:=2) c4l HNP.out).trans f2;have ul:=aC c4l K6.size;have L6:=HL5.out.keep K6 HN9.out;have y0:=L6.gC 0;have y1:=L6.gC 1;have HK6:=ah K6;have HO6:=ah hown6;have HZ6:=ah hz;refine hkO hK fun hHeld=> ?_
      clear hK K;refine wpAnyH_done kR ?_ _;simp only[oz,aP,aU];clear hown6 hg6 hz6 hz K6 hHeld L6 c2 f2 c4l m0 m1 ml y0 y1;go_wp2;go_ret;have hRR:=HR5.out;rw[←HM.out] at hRR;obtain⟨⟨X7,R7⟩,_⟩:=hRR.rowR (R':=p.R++[o]) HK6.out (aI _) (by rw[lY];exact HO6.out) (by rw[HM.out];simp) HZ6.out rfl;exact R7.fin HP.out
     ·obtain⟨dd,hdd⟩:=eY (lI e p.d k o)
      obtain⟨d',cc'⟩:=dd;have HD:=ah hdd;obtain⟨rfl,rfl⟩:=Prod.mk.inj (HG.out.symm.trans (giveP_3 HC.out HWK.out HTT.out HWC.out hR hdd));clear hdd;have hR':=hR;rw[←hm,←hM] at hR';have d9:decide ((m:Int)<(M:Int))=false:=dQf om;have d9':decide (m<M)=false:=dQf hR';clear hm hM hR;refine kG kR kR ?_;repeat(go_big_quiet_step (fail))
      refine wpQuiet_nil ?_;intro w5 hw';have hb5:=lN hw';clear hw';have z5:=hb5.size;try simp at z5
      have HR5:=ah (HR4.out.go hb5);have HL5:=ah (HL4.out.go hb5);have HR6:=ah (HR5.out.go (show Below w5.heap.size w5 w5.drew from(aL _ _).drew));clear c2 f2 c1 m0 m1 ml c4 c4l hb5;have c0:=HR5.out.at_.b.c.gC 0;have c4l:=HR5.out.at_.b.c.lt;have m0:=HL5.out.gC 0;have m1:=HL5.out.gC 1;have ml:=HL5.out.lt;have GV0:=E.give k o HR6.out.at_.s;rw[show(⟨p.d,p.most,p.R,p.T.erase o,p.W,p.G,p.last,p.cl⟩:Po).d=p.d from rfl,←HD.out] at GV0;have GV:=ah GV0;clear GV0;go_wp2_with fail;refine lJ 6 kR kR ?_;simp only[aQ,aV,aP,aU];repeat still_step
      refine wpStill_nil ?_;go_wp2_with fail;refine GV.out.mono ?_;rintro r w7 hp;obtain⟨rfl',X7,R7,_⟩:=HR6.out.dep hp;obtain rfl:r= .returned (.int .i64 cc):=rfl';have HR7:=ah R7;clear hp R7 GV;go_wp2;go_ret;exact HR7.out.fin HP.out
    ·obtain⟨rfl,rfl⟩:=Prod.mk.inj (HG.out.symm.trans (giveP_1 HC.out HWK.out HTT.out hW))
     obtain⟨c,hcc⟩:=eY W'.length;have HWC:=ah hW;have HCC:=ah hcc;have HW0:Hid (p.W.length=c+1):=by show _=_;rw[hW,hcc];simp
     obtain⟨gw,hgw⟩: ∃gw,qw=some ⟨gw,0,none⟩:=by
      rcases HR4.out.at_.b.ow.2 with⟨r,_⟩|⟨g,cap,cur,r,_⟩
      ·injection r with _ r _;have:=HW0.out;omega
      ·injection r with r _ _;exact⟨g,r⟩
     subst hgw;clear hW hcc;have c4:=HR4.out.at_.b.c.gC 4;have c4l:=HR4.out.at_.b.c.lt;rw[HW0.out] at c4;go_wp2_with fail;clear hw4 v3 vf vl;have c5:=HR4.out.at_.b.c.gC 5;have f5:=HR4.out.at_.b.c.f 5 (by simp[jV]);have hOG:w4.ownsRow w0.heap.size 137 3 (.slice qg p.G.length kg) p.G.length (tX p.G):=HR4.out.at_.b.g;have hOW:w4.ownsRow w0.heap.size 3 1 (.slice (some ⟨gw,0,none⟩) p.W.length kw) p.W.length (ints p.W):=HR4.out.at_.b.ow;have x4:w4.cell? ⟨gw,0,none⟩=some (.int .i64 t):=by
      have:=hOW.cells rfl 0 (.int .i64 t) (by rw[HWC.out];rfl);rwa [addr_add] at this
     have xg:gw<w4.heap.size:=(hOW.lt gw rfl).2;have hnp:=(mZ.1 HR4.out.at_.b.nd).1.2.2.2;have n9:w.heap.size∉jS (.slice qg p.G.length kg):=fun r=>HR4.out.nL (b:=w.heap.size) sI (jU.2 (.inr (.inr (.inr (.inr r)))))
     have n8:gw∉jS (.slice qg p.G.length kg):=(mZ.1 HR4.out.at_.b.nd).2.2.2 gw (by simp[jS,Value.ownBlock]);have NP9:pq≠w.heap.size:=fun r=>HR4.out.nL (b:=w.heap.size) sI (jU.2 (.inl r.symm))
     have BZ:Hid (w0.heap.size≤w4.heap.size):=(E.bel HR4.out.at_.s).size;obtain⟨m,hm⟩:=eY p.G.length;have HM:=ah hm;have hmf:m≤65536:=by rw[hm];exact HGF.out
     rw[←hm] at c5 hOG hnp n9 n8;have HOG:=ah hOG;have HNP:=ah hnp;have HN9:=ah n9;have HN8:=ah n8;have m0:=HL4.out.gC 0;have m1:=HL4.out.gC 1;have ml:=HL4.out.lt;clear hOG hOW hm hnp n9 n8;refine kE (S:=(fun w'=>w'.cell? ⟨pq,5,none⟩=some (.slice qg m kg)∧w'.cell? ⟨pq,4,none⟩=some (.slice (some ⟨gw,0,none⟩) (c+1) kw)∧w'.cell? ⟨gw,0,none⟩=some (.int .i64 t)∧w'.cell? ⟨w.heap.size,0,none⟩=some (.int .i64 o.1)∧w'.cell? ⟨w.heap.size,1,none⟩=some (.int .i64 o.2))) 14 #[false,false,false,false,false,false,false,false,false,false,false,false,false,false] rfl kR kR (by(try dsimp only);go_keep) (fun hHeld=> ?_);simp only[aQ,aV];refine tk 0 ?_;refine tk 1 ?_;refine tk 2 ?_;refine tk 3 ?_;refine tk 4 ?_;refine tk 5 ?_;refine tk 6 ?_;refine tk 7 ?_;refine tk 8 ?_;refine tk 9 ?_;refine tk 10 ?_;refine tk 11 ?_;refine wpAnyH_ready (rs:=[12]) kR sI ?_;refine aR (jT rfl) (fun K hK=> ?_) aX;go_simp
     refine hkO hK fun hHeld=> ?_
     clear hK K;refine wpAnyH_ready (rs:=[13]) kR sI ?_;refine aR (jT rfl) (fun K hK=> ?_) aX;refine oI Xb (base:=w0.heap.size) (v:=.slice qg m kg) (n:=m) (ms:=[.int .i64 t,.int .i64 o.1,.int .i64 o.2]) rf (.tmp 68) (.tmp 77) rf rf rf ((HOG.out.alloc _).drew) rfl (fun j u hj=>Co w4 _ _ _ _ j u hj) (by intro x hx;simp at hx;rcases hx with rfl|rfl|rfl<;>rfl) om (by have:=BZ.out;simp;omega) ?_;intro q6 k6 w6 hown6 hg6 hz6;have K6:Keep (jS (.slice qg m kg)) w4 w6:=(show Keep (jS (.slice qg m kg)) w4 ((w4.alloc (.cells #[.int .i64 t,.int .i64 o.1,.int .i64 o.2] 137)).drew) from Keep.of jY).then (kJ hg6);have hz: ∀y∈jS (.slice q6 (m+1) k6),y∈jS (.slice qg m kg)∨w4.heap.size≤y:=fun y hy=>by
      rcases oM hz6 y hy with r|r
      ·exact .inl r
      ·exact .inr (by simp at r;omega)
     have u5:=(K6.cell (o:=5) c4l HNP.out).trans c5;have uf:=(K6.frozen (o:=5) c4l HNP.out).trans f5;have u4:=(K6.cell (o:=4) c4l HNP.out).trans c4;have ul:=aC c4l K6.size;have ux:=(K6.cell (o:=0) xg HN8.out).trans x4;have L6:=HL4.out.keep K6 HN9.out;have y0:=L6.gC 0;have y1:=L6.gC 1;have HK6:=ah K6;have HO6:=ah hown6;have HZ6:=ah hz;have HL6:=ah L6;refine hkO hK fun hHeld=> ?_
     clear hK K;refine wpAnyH_done kR ?_ _;simp only[oz,aP,aU];have hRG:=HR4.out;rw[←HM.out] at hRG;obtain⟨w7,hw7⟩:=eX (w6.setCell ⟨pq,5,none⟩ (.slice q6 (m+1) k6));obtain⟨⟨X7,R7⟩,K7⟩:=hRG.rowG (G':=p.G++[(t,o)]) HK6.out (aI _) (by rw[Cr];exact HO6.out) (by rw[HM.out];simp) HZ6.out hw7.symm;have c7:=R7.at_.b.c.gC 4;have cf7:=R7.at_.b.c.f 4 (by simp[jV]);have cl7:=R7.at_.b.c.lt;rw[HW0.out] at c7;have WI0:=Xf _ p.W 0 w7 R7.at_.b.ow (by have:=HWL.out;omega) (by rw[HW0.out];omega);rw[HW0.out,HWC.out] at WI0;rw[show c+1-1=c from rfl,show(t::W').eraseIdx 0=W' from rfl] at WI0;have WI:=ah (show Calls prog 68 #[.slice (some ⟨gw,0,none⟩) (c+1) kw,.int .i64 0] w7 fun e w'=>∃q k,e= .returned (.slice q c k)∧w'.ownsRow w7.heap.size 3 1 (.slice q c k) c (ints W')∧Below w7.heap.size w7 w' from WI0);have HR7:=ah R7;clear hown6 hg6 hz6 hz K6 hHeld L6 c4 c5 f5 c4l x4 xg R7 K7 hRG WI0 m0 m1 ml y0 y1;go_wp2_with fail;clear hw7;refine WI.out.mono ?_;rintro r w8 ⟨q8,k8,rfl,yA,hb8⟩;have v4:=(hb8.cell (p:=⟨pq,4,none⟩) cl7).trans c7;have vf:=(hb8.frozen (p:=⟨pq,4,none⟩) cl7).trans cf7;have vl:=aC cl7 hb8.size;obtain⟨⟨X9,R9⟩,_⟩:=HR7.out.rowW (W':=W') (Keep.of hb8) (by have:=(E.bel HR7.out.at_.s).size;exact this) yA HCC.out (fun y hy=>.inr (jZ yA hy).1) rfl;have HR9:=ah R9;clear R9 yA hb8 c7 cf7 cl7 u5 uf u4 ul ux;go_wp2;go_ret;exact HR9.out.fin HP.out
  ·obtain rfl:i=n:=by omega
   have hT:o∉p.T:=fun hm=>by
    obtain⟨j,hj⟩:=dA hm;have:=(au.1 hj).1;have:=HN.out;exact HNO.out j o om hj rfl
   obtain⟨rfl,rfl⟩:=Prod.mk.inj (HG.out.symm.trans (giveP_0 HC.out HWK.out hT));clear hT;have d0:decide ((i:Int)<(i:Int))=false:=dQf om;have d1:((i:Int)==(i:Int))=true:=sI;clear hOT;go_wp2_with fail;go_quiet (fail);go_wp2;go_ret;exact(HR.out.go jY).fin HP.out
theorem zR (k:Int) (o:Ob) (h:rO E X F pq p w):
 Calls prog 16 #[.pointer (some ⟨pq,0,none⟩),.int .i64 k,.agg #[.int .i64 o.1,.int .i64 o.2]] w (EPost (jX E pq).S X F (lZ e p k o).1 w (.int .i64 (lZ e p k o).2)):=by
 by_cases hc:p.cl=true
 ·rw[show lZ e p k o=(p,4) from by unfold lZ;rw[if_pos hc]];exact rpgive_A k o h hc
 have hc':p.cl=false:=by simpa using hc
 by_cases hw:mG p k=false
 ·rw[show lZ e p k o=(p,2) from by unfold lZ;rw[if_neg hc,if_pos hw]];exact rpgive_B k o h hc' hw
 ·exact rpgive_D k o h hc' (by simpa using hw) rfl (h.2.give k o)
end
theorem Qy {base:Nat} {w:World} {q:Option Addr} {k:Nat} {l:List (Int×Ob)} (h:w.ownsRow base 137 3 (.slice q l.length k) l.length (tX l)) {i:Nat} {x:Int×Ob} (hx:l[i]?=some x):
 ∃g,q=some ⟨g,0,none⟩∧l.length≤k∧k≤maxLen∧g<w.heap.size∧w.cell? ⟨g,i*3,none⟩=some (.int .i64 x.1)∧w.cell? ⟨g,i*3+1,none⟩=some (.int .i64 x.2.1)∧w.cell? ⟨g,i*3+2,none⟩=some (.int .i64 x.2.2):=by
 obtain⟨il,hi⟩:=au.1 hx;obtain⟨g,e,h1,h2⟩: ∃g,q=some ⟨g,0,none⟩∧l.length≤k∧k≤maxLen:=by
  rcases h.2 with⟨e,e2⟩|⟨g,cap,cur,e,_,_,hc,hm,_⟩
  ·omega
  ·injection e with e _ e3;subst e3;exact⟨g,e,hc,hm⟩
 subst e;have e:l.drop i=x::l.drop (i+1):=by rw[dY il,hi]
 have key: ∀j u,(tX (x::l.drop (i+1)))[j]?=some u→w.cell? ⟨g,i*3+j,none⟩=some u:=fun j u hj=>by
  rw[←e,Iw,cO] at hj;have:=h.cells rfl _ u hj;rw[addr_add,bK,Nat.mul_comm] at this;exact this
 exact⟨g,rfl,h1,h2,(h.lt g rfl).2,key 0 _ rfl,key 1 _ rfl,key 2 _ rfl⟩
theorem TU {G:List (Int×Ob)} {t:Int} (h:pV G t=none): ∀x∈G,x.1≠t:=by
 unfold pV at h;rw[gJ,fB] at h;exact fun x hx=>by simpa using h x hx
theorem Cu: ∀{G:List (Int×Ob)} {t:Int} {o:Ob} {i:Nat} {x:Int×Ob},pV G t=some o→G[i]?=some x→x.1=t→(∀(j:Nat) (y:Int×Ob),j<i→G[j]?=some y→y.1≠t)→x.2=o
 |[],t,o,i,x,h,hx,_,_=>by simp at hx
 |a::G,t,o,0,x,h,hx,e,_=>by
  simp at hx;subst hx;unfold pV at h;rw[fU] at h;simp[e] at h;exact h
 |a::G,t,o,i+1,x,h,hx,e,hn=>by
  have ha:=hn 0 a om rfl;unfold pV at h;rw[fU] at h;have:(a.1==t)=false:=by simpa using ha
  rw[this] at h;exact Cu (G:=G) h (by simpa using hx) e (fun j y hj hy=>hn (j+1) y om (by simpa using hy))
theorem EK: ∀{G:List (Int×Ob)} {t:Int} {i:Nat} {x:Int×Ob},(G.map (·.1)).Nodup→G[i]?=some x→x.1=t→G.eraseIdx i=Jg G t
 |[],t,i,x,_,hx,_=>by simp at hx
 |a::G,t,0,x,hn,hx,e=>by
  simp at hx;subst hx;rw[bH,aS] at hn;unfold Jg;rw[gH,e];simp only[bne_self_eq_false,fK,if_false,List.eraseIdx_cons_zero];symm
  rw[dN];intro y hy;simp only[bne_iff_ne,ne_eq];exact fun r=>hn.1 (bC.2 ⟨y,hy,by rw[r,e]⟩)
 |a::G,t,i+1,x,hn,hx,e=>by
  rw[bH,aS] at hn;have hx':G[i]?=some x:=by simpa using hx
  have hne:a.1≠t:=fun r=>hn.1 (bC.2 ⟨x,aF hx',by rw[e,r]⟩)
  unfold Jg;rw[gH,jm];simp only[bne_iff_ne,ne_eq,hne,not_false_eq_true,if_true];rw[EK hn.2 hx' e];rfl
theorem sN {X:List Nat} (v:Value) (xs:List Int) (x:Int) (w:World) (h:nO X w v (ints xs)) (hl:xs.length≤60000):
 Calls prog 70 #[v,.int .i64 x] w fun e w'=>e= .returned (.int .i64 (EG xs x))∧w'=w:=by
 obtain⟨p,cap,rfl,h2,h3,h4⟩:=h.form;have il:(ints xs).length=xs.length:=by simp[ints]
 rw[il] at h2 ⊢;have CL:Hid (∀j a,xs[j]?=some a→∃g off,p=some ⟨g,off,none⟩∧g<w.heap.size∧w.cell? ⟨g,off+j,none⟩=some (.int .i64 a)):=fun j a hj=>by
  obtain⟨g,off,e1,_,e2,e3⟩:=h4 j _ (show(ints xs)[j]?=some (.int .i64 a) by simp[ints,hj]);exact⟨g,off,e1,e2,e3⟩
 obtain⟨n,hn⟩:=eY xs.length;have EN:=ah hn;rw[←hn] at h2 hl ⊢;unfold maxLen at h3;obtain⟨r,hr⟩:=eY (EG xs x);have HR:=ah hr;rw[←hr];clear h h4 il hn hr;go_in
 go_wp2;go_loop [5] (fun iv=>∃j:Nat,j≤n∧iv= .int .i64 j∧Hid (∀i,i<j→xs[i]?≠some x)) (fun iv=>n-(intOf iv).toNat)
 case atStart=>exact⟨0,om,by go_num,fun i hi=>om⟩
 case round=>
  obtain⟨j,hj,rfl,HJ⟩:=hrel;have j0:(0:Int)≤(j:Int):=om;by_cases hjn:j<n
  ·obtain⟨a,ha⟩: ∃a,xs[j]?=some a:=⟨xs[j]'(by rw[←EN.out];exact hjn),aA _⟩
   obtain⟨g,off,rfl,e2,e3⟩:=CL.out j a ha;have HA:=ah ha;have j1:(j:Int)<(n:Int):=om;clear ha;by_cases hax:a=x
   ·subst hax
    have ev:r=j:=by
     rw[HR.out];unfold EG;cases hi:JZ xs a with
     |none=>exact absurd (aF HA.out) (qZ.1 hi)
     |some i=>
      obtain⟨q1,q2,_⟩:=sJ hi;show((i:Nat):Int)=j;have:i=j:=by
       rcases gW i j with t|t|t
       ·exact absurd q1 (HJ.out i t)
       ·exact t
       ·exact absurd HA.out (q2 j t)
      rw[this]
    subst ev;go_wp2;go_ret;exact⟨rfl,rfl⟩
   ·go_wp2
    go_round
    case rel=>exact⟨j+1,om,by go_num,fun i hi q=>by
     rcases dP.1 hi with t|t
     ·exact HJ.out i t q
     ·subst t;rw[HA.out] at q;exact hax (aO q)⟩
    case measure=>simp[intOf];omega
  ·obtain rfl:j=n:=by omega
   have ev:r= -1:=by
    rw[HR.out];unfold EG;cases hi:JZ xs x with
    |none=>rfl
    |some i=>
     obtain⟨q1,_⟩:=sJ hi;exact absurd q1 (HJ.out i (by rw[EN.out];exact(au.1 q1).1))
   subst ev;go_wp2;go_ret;exact⟨rfl,rfl⟩
section
variable {pd e:Nat} {mn:Int} {O:List (List Int)} {w0:World} {E:vC pd e mn O w0} {X F:List Nat} {w:World} {pq:Nat} {p:Po}
theorem ES (t:Int) (h:rO E X F pq p w) (hf:pV p.G t=none):
 Calls prog 71 #[.pointer (some ⟨pq,0,none⟩),.int .i64 t] w (EPost (jX E pq).S X F p w (.tuple #[.agg #[.int .i64 0,.int .i64 0],.bool false])):=by
 have HF:=ah (TU hf);clear hf;obtain⟨⟨vr,vt,vw,vg,q⟩,hi⟩:=h;have R1:=(pI.start q).box zO;have HI:=ah hi;have HGF:=ah hi.Jh.2;have HTF:=ah hi.Jh.1;have LB:=(show jR (w.alloc zO) w.heap.size [.int .i64 0,.int .i64 0] from jR.mk_ w [.int .i64 0,.int .i64 0] 40 rfl);obtain⟨W1,hW1⟩:=eX (w.alloc zO);rw[hW1] at R1 LB;have HR1:=ah R1;have HLB:=ah LB;obtain⟨qg,kg,rfl⟩:=l6 q.b.g;obtain⟨qt,kt,rfl⟩:=l6 q.b.t;obtain⟨n,hn⟩:=eY p.G.length;have HN:=ah hn;have N6:Hid (n≤65536):=by show n≤_;rw[hn];exact HGF.out
 clear q hi R1 LB hn;go_in
 unfold zO at hW1;go_wp2_with fail;clear hW1;go_loopw [6] (fun kv wr=>∃i:Nat,i≤n∧kv= .int .i64 i∧Hid (pI E pq X F w [w.heap.size] (w.heap.size::X) vr (.slice qt p.T.length kt) vw (.slice qg p.G.length kg) p wr)∧Hid (jR wr w.heap.size [.int .i64 0,.int .i64 0])∧Hid (∀(j:Nat) (x:Int×Ob),j<i→p.G[j]?=some x→x.1≠t)) (fun kv _=>n-(intOf kv).toNat);case atStart=>exact⟨0,bq _,by go_num,HR1,HLB,fun j x hj=>om⟩
 case round=>
  obtain⟨i,hin,rfl,HR,HL,HNO⟩:=hrel;clear HR1 HLB;have c5:=HR.out.at_.b.c.gC 5;have cl:=HR.out.at_.b.c.lt;have hOG:wr.ownsRow w0.heap.size 137 3 (.slice qg p.G.length kg) p.G.length (tX p.G):=HR.out.at_.b.g;rw[←HN.out] at c5;have n6':=N6.out;by_cases hlt:i<n
  ·obtain⟨x,hx⟩: ∃x,p.G[i]?=some x:=⟨p.G[i]'(by rw[←HN.out];exact hlt),aA _⟩
   obtain⟨g,eg,g1,g2,gl,y0,y1,y2⟩:=Qy hOG hx;subst eg;unfold maxLen at g2;have hli:(i:Int)<(n:Int):=om;have hl0:(0:Int)≤(i:Int):=om;have HXX:=ah hx;by_cases hq:x.1=t;case neg=>
    have hq':(x.1==t)=false:=by simpa using hq
    have HQ:=ah hq;clear hOG hx g1 y1 y2;go_wp2;go_roundw;case rel=>exact⟨i+1,om,by go_num,HR,HL,fun j y hj hy=>by
     rcases dP.1 hj with q|q
     ·exact HNO.out j y q hy
     ·subst q;rw[HXX.out] at hy;obtain rfl:=aO hy;exact HQ.out⟩
    case measure=>simp[intOf];omega
   case pos=>
    exact absurd hq (HF.out x (aF hx))
  ·obtain rfl:i=n:=by omega
   have m0:=HL.out.gC 0;have m1:=HL.out.gC 1;have f0:=HL.out.f 0 sI;have f1:=HL.out.f 1 sI;have ml:=HL.out.lt;have LF:=ah (HL.out.lq (.int .i64 0) (.int .i64 0));clear hOG;go_wp2;have e0:=LF.out.gC 0;have e1:=LF.out.gC 1;exact bodyPost_ret (v:=.tuple #[.agg #[.int .i64 0,.int .i64 0],.bool false]) (by simp[e0,e1,results,Tryz.results71,go_sem]) rfl ((HR.out.wr (b:=w.heap.size) sI ((Keep.refl _ _).Dg (.inl sI) _ _)).fin HI.out)
theorem Cv (t:Int) (h:rO E X F pq p w) {o:Ob} (hf:pV p.G t=some o):
 Calls prog 71 #[.pointer (some ⟨pq,0,none⟩),.int .i64 t] w (EPost (jX E pq).S X F (p.fetch t o) w (.tuple #[.agg #[.int .i64 o.1,.int .i64 o.2],.bool true])):=by
 have HF:=ah hf;have HP:=ah (h.2.fetch hf).1;have HGN:=ah h.2.gn;clear hf;obtain⟨⟨vr,vt,vw,vg,q⟩,hi⟩:=h;have R1:=(pI.start q).box zO;have HI:=ah hi;have HGF:=ah hi.Jh.2;have HTF:=ah hi.Jh.1;have LB:=(show jR (w.alloc zO) w.heap.size [.int .i64 0,.int .i64 0] from jR.mk_ w [.int .i64 0,.int .i64 0] 40 rfl);obtain⟨W1,hW1⟩:=eX (w.alloc zO);rw[hW1] at R1 LB;have HR1:=ah R1;have HLB:=ah LB;obtain⟨qg,kg,rfl⟩:=l6 q.b.g;obtain⟨qt,kt,rfl⟩:=l6 q.b.t;obtain⟨n,hn⟩:=eY p.G.length;have HN:=ah hn;have N6:Hid (n≤65536):=by show n≤_;rw[hn];exact HGF.out
 clear q hi R1 LB hn;go_in
 unfold zO at hW1;go_wp2_with fail;clear hW1;go_loopw [6] (fun kv wr=>∃i:Nat,i≤n∧kv= .int .i64 i∧Hid (pI E pq X F w [w.heap.size] (w.heap.size::X) vr (.slice qt p.T.length kt) vw (.slice qg p.G.length kg) p wr)∧Hid (jR wr w.heap.size [.int .i64 0,.int .i64 0])∧Hid (∀(j:Nat) (x:Int×Ob),j<i→p.G[j]?=some x→x.1≠t)) (fun kv _=>n-(intOf kv).toNat);case atStart=>exact⟨0,bq _,by go_num,HR1,HLB,fun j x hj=>om⟩
 case round=>
  obtain⟨i,hin,rfl,HR,HL,HNO⟩:=hrel;clear HR1 HLB;have c5:=HR.out.at_.b.c.gC 5;have cl:=HR.out.at_.b.c.lt;have hOG:wr.ownsRow w0.heap.size 137 3 (.slice qg p.G.length kg) p.G.length (tX p.G):=HR.out.at_.b.g;rw[←HN.out] at c5;have n6':=N6.out;by_cases hlt:i<n
  ·obtain⟨x,hx⟩: ∃x,p.G[i]?=some x:=⟨p.G[i]'(by rw[←HN.out];exact hlt),aA _⟩
   obtain⟨g,eg,g1,g2,gl,y0,y1,y2⟩:=Qy hOG hx;subst eg;unfold maxLen at g2;have hli:(i:Int)<(n:Int):=om;have hl0:(0:Int)≤(i:Int):=om;have HXX:=ah hx;by_cases hq:x.1=t;case neg=>
    have hq':(x.1==t)=false:=by simpa using hq
    have HQ:=ah hq;clear hOG hx g1 y1 y2;go_wp2;go_roundw;case rel=>exact⟨i+1,om,by go_num,HR,HL,fun j y hj hy=>by
     rcases dP.1 hj with q|q
     ·exact HNO.out j y q hy
     ·subst q;rw[HXX.out] at hy;obtain rfl:=aO hy;exact HQ.out⟩
    case measure=>simp[intOf];omega
   case pos=>
    obtain⟨x1,x2⟩:=x;simp only at hq y0 y1 y2;subst hq;have hxo:x2=o:=Cu HF.out hx rfl HNO.out;subst hxo;have ED:p.G.eraseIdx i=Jg p.G x1:=EK HGN.out hx rfl;have ER:tX (Jg p.G x1)=tX (p.G.take i)++tX (p.G.drop (i+1)):=by rw[←ED,dM,Cr]
    have LD:n-1=(Jg p.G x1).length:=by rw[←ED,iU (by rw[←HN.out];exact hlt),←HN.out]
    have hq':(x1==x1)=true:=sI;obtain⟨w2,hw2⟩:=eX (wr.alloc (bO x2));obtain⟨b9,hb9⟩:=eX wr.heap.size;have B2:Below wr.heap.size wr w2:=by rw[←hw2];unfold bO;exact jY
    have R2:=HR.out.box (bO x2);have N2:jR (wr.alloc (bO x2)) wr.heap.size [.int .i64 x2.1,.int .i64 x2.2]:=jR.mk_ wr [.int .i64 x2.1,.int .i64 x2.2] 40 rfl;rw[hw2] at R2 N2;rw[hb9] at R2 N2;have L2:=HL.out.go B2;have hOG2:w2.ownsRow w0.heap.size 137 3 (.slice (some ⟨g,0,none⟩) p.G.length kg) p.G.length (tX p.G):=jQ hOG (Keep.of (S:=[]) B2) (fun s r=>by cases r);have hNG:n=p.G.length:=HN.out;have T0:(tX (p.G.take i)).length=i*3:=by rw[Cq,bD];omega
    have D0:(tX (p.G.drop (i+1))).length=(n-(i+1))*3:=by rw[Cq,bY,←HN.out];omega
    have S1:Hid (uP w2 (some ⟨g,0,none⟩) (tX (p.G.take i))):=by rw[Xe];exact AP hOG2 _ (aL _ _)
    have S2:Hid (∀W,Below w2.heap.size w2 W→uP W (some ⟨g,(i+1)*3,none⟩) (tX (p.G.drop (i+1)))):=fun W hW=>by
     have:=AO hOG2 (3*(i+1)) hW;rw[←Iw] at this;rw[Nat.mul_comm] at this;exact this
    have HT:=ah T0;have HDD:=ah D0;have HER:=ah ER;have HLD:=ah LD;have HR2:=ah R2;have HN2:=ah N2;have HL2:=ah L2;have e9:i+(n-(i+1))=n-1:=om;have E9:=ah e9;have i1:(i:Int)≤(kg:Int):=om;have i2:(i:Int)+1≤(n:Int):=om;have i3:(0:Int)≤(i:Int)+1:=om;have i4:((i:Int)+1).toNat=i+1:=om;have i5:(n:Int)≤(kg:Int):=by have:=HN.out;omega
    have nk:n≤kg:=by have:=HN.out;omega
    have a5:=R2.at_.b.c.gC 5;have af:=R2.at_.b.c.f 5 (by simp[jV]);have al:=R2.at_.b.c.lt;rw[←HN.out] at a5;clear hOG hOG2 hx ED ER LD T0 D0 R2 N2 L2 B2 e9 g1 hNG;have FIN:Hid (∀(q2:Option Addr) (k2:Nat) (w4:World),w4.ownsRow w2.heap.size 137 3 (.slice q2 (n-1) k2) (n-1) (tX (p.G.take i)++tX (p.G.drop (i+1)))→Below w2.heap.size w2 w4→∃X',pI E pq X F w [b9,w.heap.size] X' vr (.slice qt p.T.length kt) vw (.slice q2 (n-1) k2) ⟨p.d,p.most,p.R,p.T,p.W,Jg p.G x1,p.last,p.cl⟩ (w4.setCell ⟨pq,5,none⟩ (.slice q2 (n-1) k2))∧Keep (pq::jS (.slice (some ⟨g,0,none⟩) p.G.length kg)) w2 (w4.setCell ⟨pq,5,none⟩ (.slice q2 (n-1) k2))):=fun q2 k2 w4 ho hb=>by
     obtain⟨⟨X',r1⟩,r2⟩:=HR2.out.rowG (G':=Jg p.G x1) (Keep.of hb) (by have:=(E.bel HR2.out.at_.s).size;exact this) (by rw[HER.out];exact ho) HLD.out (fun y hy=>.inr (jZ ho hy).1) rfl;exact⟨X',r1,r2⟩
    by_cases hc:kg=i+1
    ·obtain rfl:n=i+1:=by omega
     subst hc;have hz:tX (p.G.drop (i+1))=[]:=bM.1 (by rw[HDD.out,iL,Nat.zero_mul]);have S3:Hid (∀W,Below w2.heap.size w2 W→uP W (some ⟨g,0,none⟩) (tX (p.G.drop (i+1)))):=fun W _=>by rw[hz];exact .inr ⟨_,rfl,fun j u hj=>by simp at hj⟩
     have HD3:Hid ((tX (p.G.drop (i+1))).length=0*3):=by show _=_;rw[hz];simp
     clear hz;have FINP:=FIN.out;simp only[Nat.add_sub_cancel] at FINP;unfold bO at hw2;go_wp2_with (first|(at_builtin;refine kP Xb (base:=w2.heap.size) (v:=.slice none 0 0) (n:=0) (m:=i) (xs:=[]) (ms:=tX (p.G.take i)) (p:=some ⟨g,0,none⟩) rf (.tmp 37) (.tmp 43) rf rf rf (aT _ _ _ _) HT.out S1.out (AU _) om (aI _) ?_;intro q1 k1 w3 hown1 hg1 ho1;have hb1:Below w2.heap.size w2 w3:=(aL _ _).grown hg1 (aI _) (fun r hr=>by cases hr);have sr:=S3.out w3 hb1;rw[bK] at hown1 ho1;rw[dx] at hown1;have b5:=(hb1.cell (p:=⟨pq,5,none⟩) al).trans a5;have bf:=(hb1.frozen (p:=⟨pq,5,none⟩) al).trans af;have bl:=aC al hb1.size)|(at_builtin;refine kP Xb (base:=w2.heap.size) (v:=.slice q1 i k1) (n:=i) (m:=0) (xs:=tX (p.G.take i)) (ms:=tX (p.G.drop (i+1))) (p:=some ⟨g,0,none⟩) rf (.tmp 46) (.tmp 53) rf rf rf hown1 HD3.out sr (AU _) om hb1.size ?_;intro q2 k2 w4 hown2 hg2 ho2;have hb2:Below w2.heap.size w2 w4:=((Keep.of (S:=[]) hb1).trans (kJ hg2) (fun s hs=>.inr (jZ hown1 hs).1)).rA;have c5:=(hb2.cell (p:=⟨pq,5,none⟩) al).trans a5;have cf:=(hb2.frozen (p:=⟨pq,5,none⟩) al).trans af;have cl':=aC al hb2.size));clear hw2 hb9;simp only[gP,Nat.add_sub_cancel] at hown2 ⊢;obtain⟨X5,R5,K5⟩:=FINP q2 k2 w4 hown2 hb2;obtain⟨w5,hw5⟩:=eY (w4.setCell ⟨pq,5,none⟩ (.slice q2 i k2));rw[←hw5] at R5 K5 ⊢;have N5:=HN2.out.keep K5 (fun r=>HR2.out.nL (b:=b9) sI (jU.2 ((aB.1 r).imp id fun u=>.inr (.inr (.inr u)))));have L5:=HL2.out.keep K5 (fun r=>HR2.out.nL (b:=w.heap.size) sI (jU.2 ((aB.1 r).imp id fun u=>.inr (.inr (.inr u)))))
     have HR5:=ah R5;have HN5:=ah N5;have HL5:=ah L5;have x0:=N5.gC 0;have x1':=N5.gC 1;have xl:=N5.lt;clear hown2 hb2 R5 K5 N5 L5 c5 cf cl' a5 af al b5 bf bl hw5 y0 y1 y2 gl cl;obtain⟨m,hm⟩:=eY p.T.length;have HM:=ah hm;have t3:=HR5.out.at_.b.c.gC 3;have tf:=HR5.out.at_.b.c.f 3 (by simp[jV]);have tl:=HR5.out.at_.b.c.lt;have hOT:w5.ownsRow w0.heap.size 40 2 (.slice qt p.T.length kt) p.T.length (l8 p.T):=HR5.out.at_.b.t;have hnp:=(mZ.1 HR5.out.at_.b.nd).1.2.1;have n9:b9∉jS (.slice qt p.T.length kt):=fun r=>HR5.out.nL (b:=b9) sI (jU.2 (.inr (.inr (.inl r))))
     have n6:w.heap.size∉jS (.slice qt p.T.length kt):=fun r=>HR5.out.nL (b:=w.heap.size) sI (jU.2 (.inr (.inr (.inl r))))
     have NP6:pq≠w.heap.size:=fun r=>HR5.out.nL (b:=w.heap.size) sI (jU.2 (.inl r.symm))
     have NP9:pq≠b9:=fun r=>HR5.out.nL (b:=b9) sI (jU.2 (.inl r.symm))
     have BZ:Hid (w0.heap.size≤w5.heap.size):=(E.bel HR5.out.at_.s).size;rw[←hm] at t3 hOT hnp n9 n6;have HOT:=ah hOT;have HNP:=ah hnp;have HN9:=ah n9;have HN6:=ah n6;have hmf:m≤65536:=by rw[hm];exact HTF.out
     clear hm hOT hnp n9 n6;refine kE (S:=(fun w'=>w'.cell? ⟨pq,3,none⟩=some (.slice qt m kt)∧w'.cell? ⟨b9,0,none⟩=some (.int .i64 x2.1)∧w'.cell? ⟨b9,1,none⟩=some (.int .i64 x2.2))) 7 #[false,false,false,false,false,false,false] rfl kR kR (by(try dsimp only);go_keep) (fun hHeld=> ?_);simp only[aQ,aV];refine tk 0 ?_;refine tk 1 ?_;refine tk 2 ?_;refine tk 3 ?_;refine tk 4 ?_;refine wpAnyH_ready (rs:=[5]) kR sI ?_;refine aR (jT rfl) (fun K hK=> ?_) aX;go_simp
     refine hkO hK fun hHeld=> ?_
     clear hK K;refine wpAnyH_ready (rs:=[6]) kR sI ?_;refine aR (jT rfl) (fun K hK=> ?_) aX;refine oI uh (base:=w0.heap.size) (v:=.slice qt m kt) (n:=m) (ms:=[.int .i64 x2.1,.int .i64 x2.2]) rf (.tmp 60) (.tmp 62) rf rf rf ((HOT.out.alloc _).drew) rfl (fun j u hj=>oK w5 _ _ _ j u hj) (oL _ _) om (by have:=BZ.out;simp;omega) ?_;intro q6 k6 w6 hown6 hg6 hz6;have K6:Keep (jS (.slice qt m kt)) w5 w6:=(show Keep (jS (.slice qt m kt)) w5 ((w5.alloc (.cells #[.int .i64 x2.1,.int .i64 x2.2] 40)).drew) from Keep.of jY).then (kJ hg6);have hz: ∀y∈jS (.slice q6 (m+1) k6),y∈jS (.slice qt m kt)∨w5.heap.size≤y:=fun y hy=>by
      rcases oM hz6 y hy with r|r
      ·exact .inl r
      ·exact .inr (by simp at r;omega)
     have u3:=(K6.cell (o:=3) tl HNP.out).trans t3;have uf:=(K6.frozen (o:=3) tl HNP.out).trans tf;have ul:=aC tl K6.size;have L6:=HL5.out.keep K6 HN6.out;have N6':=HN5.out.keep K6 HN9.out;have m0:=L6.gC 0;have m1:=L6.gC 1;have f0:=L6.f 0 sI;have f1:=L6.f 1 sI;have ml:=L6.lt;have y0:=N6'.gC 0;have y1:=N6'.gC 1;have yl:=N6'.lt;have HK6:=ah K6;have HO6:=ah hown6;have HZ6:=ah hz;have HL6:=ah L6;refine hkO hK fun hHeld=> ?_
     clear hK K;refine wpAnyH_done kR ?_ _;simp only[oz,aP,aU];clear hown6 hg6 hz6 hz K6 hHeld t3 tf tl L6 N6' x0 x1' xl;go_wp2;obtain⟨w7,hw7⟩:=eY (w6.setCell ⟨pq,3,none⟩ (.slice q6 (m+1) k6));have hRT:=HR5.out;rw[←HM.out] at hRT;obtain⟨⟨X7,R7⟩,K7⟩:=hRT.Sg (T':=p.T++[x2]) HK6.out (aI _) (by rw[lY];exact HO6.out) (by rw[HM.out];simp) HZ6.out hw7;have LF:=ah (((HL6.out.keep (show Keep [pq] w6 w7 from by rw[hw7];exact(Keep.refl _ _).setCell (p:=⟨pq,3,none⟩) (.inl sI) _) (by simpa using fun r=>NP6 r.symm))).lq (.int .i64 x2.1) (.int .i64 x2.2));rw[←hw7];have e0:=LF.out.gC 0;have e1:=LF.out.gC 1;exact bodyPost_ret (v:=.tuple #[.agg #[.int .i64 x2.1,.int .i64 x2.2],.bool true]) (by simp[e0,e1,results,Tryz.results71,go_sem]) rfl ((R7.wr (b:=w.heap.size) sI ((Keep.refl _ _).Dg (.inl sI) _ _)).fin HP.out)
    ·have FINP:=FIN.out
     unfold bO at hw2;go_wp2_with (first|(at_builtin;refine kP Xb (base:=w2.heap.size) (v:=.slice none 0 0) (n:=0) (m:=i) (xs:=[]) (ms:=tX (p.G.take i)) (p:=some ⟨g,0,none⟩) rf (.tmp 37) (.tmp 43) rf rf rf (aT _ _ _ _) HT.out S1.out (AU _) om (aI _) ?_;intro q1 k1 w3 hown1 hg1 ho1;have hb1:Below w2.heap.size w2 w3:=(aL _ _).grown hg1 (aI _) (fun r hr=>by cases hr);have sr:=S2.out w3 hb1;rw[bK] at hown1 ho1;rw[dx] at hown1;have b5:=(hb1.cell (p:=⟨pq,5,none⟩) al).trans a5;have bf:=(hb1.frozen (p:=⟨pq,5,none⟩) al).trans af;have bl:=aC al hb1.size)|(at_builtin;refine kP Xb (base:=w2.heap.size) (v:=.slice q1 i k1) (n:=i) (m:=n-(i+1)) (xs:=tX (p.G.take i)) (ms:=tX (p.G.drop (i+1))) (p:=some ⟨g,(i+1)*3,none⟩) rf (.tmp 46) (.tmp 53) rf rf rf hown1 HDD.out sr (AU _) om hb1.size ?_;intro q2 k2 w4 hown2 hg2 ho2;have hb2:Below w2.heap.size w2 w4:=((Keep.of (S:=[]) hb1).trans (kJ hg2) (fun s hs=>.inr (jZ hown1 hs).1)).rA;have c5:=(hb2.cell (p:=⟨pq,5,none⟩) al).trans a5;have cf:=(hb2.frozen (p:=⟨pq,5,none⟩) al).trans af;have cl':=aC al hb2.size));clear hw2 hb9;rw[E9.out] at hown2 ⊢;obtain⟨X5,R5,K5⟩:=FINP q2 k2 w4 hown2 hb2;obtain⟨w5,hw5⟩:=eY (w4.setCell ⟨pq,5,none⟩ (.slice q2 (n-1) k2));rw[←hw5] at R5 K5 ⊢;have N5:=HN2.out.keep K5 (fun r=>HR2.out.nL (b:=b9) sI (jU.2 ((aB.1 r).imp id fun u=>.inr (.inr (.inr u)))));have L5:=HL2.out.keep K5 (fun r=>HR2.out.nL (b:=w.heap.size) sI (jU.2 ((aB.1 r).imp id fun u=>.inr (.inr (.inr u)))));have HR5:=ah R5;have HN5:=ah N5;have HL5:=ah L5;have x0:=N5.gC 0;have x1':=N5.gC 1;have xl:=N5.lt
     clear hown2 hb2 R5 K5 N5 L5 c5 cf cl' a5 af al b5 bf bl hw5 y0 y1 y2 gl cl;obtain⟨m,hm⟩:=eY p.T.length;have HM:=ah hm;have t3:=HR5.out.at_.b.c.gC 3;have tf:=HR5.out.at_.b.c.f 3 (by simp[jV]);have tl:=HR5.out.at_.b.c.lt;have hOT:w5.ownsRow w0.heap.size 40 2 (.slice qt p.T.length kt) p.T.length (l8 p.T):=HR5.out.at_.b.t;have hnp:=(mZ.1 HR5.out.at_.b.nd).1.2.1;have n9:b9∉jS (.slice qt p.T.length kt):=fun r=>HR5.out.nL (b:=b9) sI (jU.2 (.inr (.inr (.inl r))))
     have n6:w.heap.size∉jS (.slice qt p.T.length kt):=fun r=>HR5.out.nL (b:=w.heap.size) sI (jU.2 (.inr (.inr (.inl r))))
     have NP6:pq≠w.heap.size:=fun r=>HR5.out.nL (b:=w.heap.size) sI (jU.2 (.inl r.symm))
     have NP9:pq≠b9:=fun r=>HR5.out.nL (b:=b9) sI (jU.2 (.inl r.symm))
     have BZ:Hid (w0.heap.size≤w5.heap.size):=(E.bel HR5.out.at_.s).size;rw[←hm] at t3 hOT hnp n9 n6;have HOT:=ah hOT;have HNP:=ah hnp;have HN9:=ah n9;have HN6:=ah n6;have hmf:m≤65536:=by rw[hm];exact HTF.out
     clear hm hOT hnp n9 n6;refine kE (S:=(fun w'=>w'.cell? ⟨pq,3,none⟩=some (.slice qt m kt)∧w'.cell? ⟨b9,0,none⟩=some (.int .i64 x2.1)∧w'.cell? ⟨b9,1,none⟩=some (.int .i64 x2.2))) 7 #[false,false,false,false,false,false,false] rfl kR kR (by(try dsimp only);go_keep) (fun hHeld=> ?_);simp only[aQ,aV];refine tk 0 ?_;refine tk 1 ?_;refine tk 2 ?_;refine tk 3 ?_;refine tk 4 ?_;refine wpAnyH_ready (rs:=[5]) kR sI ?_;refine aR (jT rfl) (fun K hK=> ?_) aX;go_simp
     refine hkO hK fun hHeld=> ?_
     clear hK K;refine wpAnyH_ready (rs:=[6]) kR sI ?_;refine aR (jT rfl) (fun K hK=> ?_) aX;refine oI uh (base:=w0.heap.size) (v:=.slice qt m kt) (n:=m) (ms:=[.int .i64 x2.1,.int .i64 x2.2]) rf (.tmp 60) (.tmp 62) rf rf rf ((HOT.out.alloc _).drew) rfl (fun j u hj=>oK w5 _ _ _ j u hj) (oL _ _) om (by have:=BZ.out;simp;omega) ?_;intro q6 k6 w6 hown6 hg6 hz6;have K6:Keep (jS (.slice qt m kt)) w5 w6:=(show Keep (jS (.slice qt m kt)) w5 ((w5.alloc (.cells #[.int .i64 x2.1,.int .i64 x2.2] 40)).drew) from Keep.of jY).then (kJ hg6);have hz: ∀y∈jS (.slice q6 (m+1) k6),y∈jS (.slice qt m kt)∨w5.heap.size≤y:=fun y hy=>by
      rcases oM hz6 y hy with r|r
      ·exact .inl r
      ·exact .inr (by simp at r;omega)
     have u3:=(K6.cell (o:=3) tl HNP.out).trans t3;have uf:=(K6.frozen (o:=3) tl HNP.out).trans tf;have ul:=aC tl K6.size;have L6:=HL5.out.keep K6 HN6.out;have N6':=HN5.out.keep K6 HN9.out;have m0:=L6.gC 0;have m1:=L6.gC 1;have f0:=L6.f 0 sI;have f1:=L6.f 1 sI;have ml:=L6.lt;have y0:=N6'.gC 0;have y1:=N6'.gC 1;have yl:=N6'.lt;have HK6:=ah K6;have HO6:=ah hown6;have HZ6:=ah hz;have HL6:=ah L6;refine hkO hK fun hHeld=> ?_
     clear hK K;refine wpAnyH_done kR ?_ _;simp only[oz,aP,aU];clear hown6 hg6 hz6 hz K6 hHeld t3 tf tl L6 N6' x0 x1' xl;go_wp2;obtain⟨w7,hw7⟩:=eY (w6.setCell ⟨pq,3,none⟩ (.slice q6 (m+1) k6));have hRT:=HR5.out;rw[←HM.out] at hRT;obtain⟨⟨X7,R7⟩,K7⟩:=hRT.Sg (T':=p.T++[x2]) HK6.out (aI _) (by rw[lY];exact HO6.out) (by rw[HM.out];simp) HZ6.out hw7;have LF:=ah (((HL6.out.keep (show Keep [pq] w6 w7 from by rw[hw7];exact(Keep.refl _ _).setCell (p:=⟨pq,3,none⟩) (.inl sI) _) (by simpa using fun r=>NP6 r.symm))).lq (.int .i64 x2.1) (.int .i64 x2.2));rw[←hw7];have e0:=LF.out.gC 0;have e1:=LF.out.gC 1;exact bodyPost_ret (v:=.tuple #[.agg #[.int .i64 x2.1,.int .i64 x2.2],.bool true]) (by simp[e0,e1,results,Tryz.results71,go_sem]) rfl ((R7.wr (b:=w.heap.size) sI ((Keep.refl _ _).Dg (.inl sI) _ _)).fin HP.out)
  ·obtain rfl:i=n:=by omega
   exfalso;have:=HF.out;unfold pV at this;rw[dh] at this;obtain⟨y,hy,_⟩:=this;obtain⟨j,hj⟩:=dA (dJ hy);have h1:=(au.1 hj).1;have h2:=gU hy;have:=HN.out;exact HNO.out j y om hj (by simpa using h2)
end
section
variable {pd e:Nat} {mn:Int} {O:List (List Int)} {w0:World} {E:vC pd e mn O w0} {X F:List Nat} {w:World} {pq:Nat} {p:Po}
theorem Xi {l:List Int} {t:Int} (h:t∈l): ∃i:Nat,EG l t=i∧i<l.length∧l.erase t=l.eraseIdx i:=by
 unfold EG;cases hi:JZ l t with
 |none=>exact absurd h (qZ.1 hi)
 |some i=>
  obtain⟨q1,_,q3⟩:=sJ hi;exact⟨i,rfl,(au.1 q1).1,q3⟩
theorem AV {l:List Int} {t:Int} (h:t∉l):EG l t= -1:=by
 unfold EG;rw[qZ.2 h]
theorem TV (t:Int) (h:rO E X F pq p w) (hc:p.cl=true):
 Calls prog 20 #[.pointer (some ⟨pq,0,none⟩),.int .i64 t] w (EPost (jX E pq).S X F p w (.int .i64 4)):=by
 have FIN:=ah (h.same (r:=.int .i64 4));obtain⟨⟨vr,vt,vw,vg,q⟩,hi⟩:=id h;have c7:=q.b.c.gC 7;have c4:=q.b.c.gC 4;have f4:=q.b.c.f 4 (by simp[jV]);have cl:=q.b.c.lt;rw[hc] at c7;have hw8:=hi.w;have IX0:=sN vw p.W t _ (rH q.b.ow) om;obtain⟨qw,kw,rfl⟩:=l6 q.b.ow;clear q hi hc h IX0 c4;go_in
 go_wp2;go_ret;exact FIN.out _ (aL _ _)
theorem TW (t:Int) (h:rO E X F pq p w) (hc:p.cl=false) (ht:t∈p.W) (hP:nX e ⟨p.d,p.most,p.R,p.T,p.W.erase t,p.G,p.last,p.cl⟩):
 Calls prog 20 #[.pointer (some ⟨pq,0,none⟩),.int .i64 t] w (EPost (jX E pq).S X F ⟨p.d,p.most,p.R,p.T,p.W.erase t,p.G,p.last,p.cl⟩ w (.int .i64 0)):=by
 have HP:=ah hP;obtain⟨⟨vr,vt,vw,vg,q⟩,hi⟩:=id h;have c7:=q.b.c.gC 7;have c4:=q.b.c.gC 4;have f4:=q.b.c.f 4 (by simp[jV]);have cl:=q.b.c.lt;rw[hc] at c7;have hw8:=hi.w;have IX0:=sN vw p.W t _ (rH q.b.ow) om;obtain⟨qw,kw,rfl⟩:=l6 q.b.ow;obtain⟨i,hi1,hi2,hi3⟩:=Xi ht;rw[hi1] at IX0;have IX:=ah IX0;have i0:(0:Int)≤(i:Int):=om;have WI0:=Xf _ p.W i w q.b.ow om hi2;rw[←hi3] at WI0;have el:p.W.length-1=(p.W.erase t).length:=by rw[hi3,iU hi2]
 have EL:=ah el;obtain⟨n,hn⟩:=eY p.W.length;have EN:=ah hn;rw[←hn] at WI0 c4 IX;have WI:=ah WI0;have HR:=ah (pI.start q);clear q hi hc h IX0 WI0 hi1 hi2 hi3 el hn ht hP;go_in
 go_wp2_with fail;refine IX.out.mono ?_;rintro r w2 ⟨rfl,hw2⟩;obtain rfl:=hw2.symm;clear IX;go_wp2_with fail;refine WI.out.mono ?_;rintro r w3 ⟨q3,k3,rfl,hown3,hb3⟩;have v4:=(hb3.cell (p:=⟨pq,4,none⟩) cl).trans c4;have vf:=(hb3.frozen (p:=⟨pq,4,none⟩) cl).trans f4;have vl:=aC cl hb3.size;obtain⟨⟨X4,R4⟩,_⟩:=HR.out.rowW (W':=p.W.erase t) (Keep.of hb3) (by have:=(E.bel HR.out.at_.s).size;exact this) hown3 (by rw[EN.out];exact EL.out) (fun y hy=>.inr (jZ hown3 hy).1) rfl;have HR4:=ah R4;clear R4 hown3 hb3 WI c7 c4 f4 cl;go_wp2;go_ret;exact HR4.out.fin HP.out
theorem TY (t:Int) (h:rO E X F pq p w) (hc:p.cl=false) (ht:t∉p.W) (hf:pV p.G t=none):
 Calls prog 20 #[.pointer (some ⟨pq,0,none⟩),.int .i64 t] w (EPost (jX E pq).S X F p w (.int .i64 4)):=by
 obtain⟨⟨vr,vt,vw,vg,q⟩,hi⟩:=id h;have c7:=q.b.c.gC 7;have c4:=q.b.c.gC 4;have f4:=q.b.c.f 4 (by simp[jV]);have cl:=q.b.c.lt;rw[hc] at c7;have hw8:=hi.w;have IX0:=sN vw p.W t _ (rH q.b.ow) om;obtain⟨qw,kw,rfl⟩:=l6 q.b.ow;rw[AV ht] at IX0;have IX:=ah IX0;obtain⟨n,hn⟩:=eY p.W.length;rw[←hn] at IX c4;have FT:=ah (ES t h hf);have HR1:=ah (pQ.start (E:=jX E pq) h);clear q hi hc IX0 ht hn hf h;go_in
 go_wp2_with fail;refine IX.out.mono ?_;rintro r w2 ⟨rfl,hw2⟩;obtain rfl:=hw2.symm;clear IX;go_wp2_with fail;refine FT.out.mono ?_;rintro r w3 hp;obtain⟨rfl',X3,R3,k3⟩:=HR1.out.act hp;obtain rfl:r= .returned (.tuple #[.agg #[.int .i64 0,.int .i64 0],.bool false]):=rfl';obtain⟨w5,hw5⟩:=eX (w3.alloc (zO));obtain⟨b9,hb9⟩:=eX w3.heap.size;have R5:=R3.box (zO);have N5:jR (w3.alloc (zO)) w3.heap.size [.int .i64 0,.int .i64 0]:=jR.mk_ w3 [.int .i64 0,.int .i64 0] 40 rfl;rw[hw5] at R5 N5;rw[hb9] at R5 N5;have nf0:=N5.f 0 sI;have nf1:=N5.f 1 sI;obtain⟨w6,hw6⟩:=eX ((w5.setCell ⟨b9,0,none⟩ (.int .i64 0)).setCell ⟨b9,1,none⟩ (.int .i64 0));have K6:Keep [b9] w5 w6:=by rw[←hw6];exact(Keep.refl _ _).Dg (.inl sI) _ _
 have R6:=R5.wr (b:=b9) sI K6;have HR6:=ah R6;have x0:=N5.gC 0;have x1:=N5.gC 1;have xl:=N5.lt;clear hp k3 FT R3 R5 R6 N5 K6 c7 c4 f4 cl;unfold zO at hw5;go_wp2;go_ret;exact HR6.out.fin
theorem U0 (t:Int) (h:rO E X F pq p w) (hc:p.cl=false) (ht:t∉p.W) {o:Ob} (hf:pV p.G t=some o):
 Calls prog 20 #[.pointer (some ⟨pq,0,none⟩),.int .i64 t] w (EPost (jX E pq).S X F (lZ e (p.fetch t o) 0 o).1 w (.int .i64 (lZ e (p.fetch t o) 0 o).2)):=by
 obtain⟨gg,hgg⟩:=eY (lZ e (p.fetch t o) 0 o);have HGG:=ah hgg;rw[←hgg];clear hgg;obtain⟨⟨vr,vt,vw,vg,q⟩,hi⟩:=id h;have c7:=q.b.c.gC 7;have c4:=q.b.c.gC 4;have f4:=q.b.c.f 4 (by simp[jV]);have cl:=q.b.c.lt;rw[hc] at c7;have hw8:=hi.w;have IX0:=sN vw p.W t _ (rH q.b.ow) om;obtain⟨qw,kw,rfl⟩:=l6 q.b.ow;rw[AV ht] at IX0;have IX:=ah IX0;obtain⟨n,hn⟩:=eY p.W.length;rw[←hn] at IX c4;have FT:=ah (Cv t h hf);have HR1:=ah (pQ.start (E:=jX E pq) h);clear q hi hc IX0 ht hn hf h;go_in
 go_wp2_with fail;refine IX.out.mono ?_;rintro r w2 ⟨rfl,hw2⟩;obtain rfl:=hw2.symm;clear IX;go_wp2_with fail;refine FT.out.mono ?_;rintro r w3 hp;obtain⟨rfl',X3,R3,k3⟩:=HR1.out.act hp;obtain rfl:r= .returned (.tuple #[.agg #[.int .i64 o.1,.int .i64 o.2],.bool true]):=rfl';obtain⟨w5,hw5⟩:=eX (w3.alloc (bO o));obtain⟨b9,hb9⟩:=eX w3.heap.size;have R5:=R3.box (bO o);have N5:jR (w3.alloc (bO o)) w3.heap.size [.int .i64 o.1,.int .i64 o.2]:=jR.mk_ w3 [.int .i64 o.1,.int .i64 o.2] 40 rfl;rw[hw5] at R5 N5;rw[hb9] at R5 N5;have HR5:=ah R5;have x0:=N5.gC 0;have x1:=N5.gC 1;have xl:=N5.lt;have GV0:=zR 0 o R5.t;rw[←HGG.out] at GV0;have GV:=ah GV0;clear hp k3 FT R3 R5 N5 c7 c4 f4 cl GV0;unfold bO at hw5;go_wp2_with fail;clear hw5 hb9;refine GV.out.mono ?_;rintro r w6 hp;obtain⟨rfl',X6,R6,_⟩:=HR5.out.act hp;obtain rfl:r= .returned (.int .i64 gg.2):=rfl';have HR6:=ah R6;clear hp R6 GV;go_wp2;go_ret;exact HR6.out.fin
theorem Ad (t:Int) (h:rO E X F pq p w):
 Calls prog 20 #[.pointer (some ⟨pq,0,none⟩),.int .i64 t] w (EPost (jX E pq).S X F (oV e p t).1 w (.int .i64 (oV e p t).2)):=by
 have hI:=h.2.cancel t;revert hI;unfold oV;by_cases hc:p.cl=true
 ·rw[if_pos hc];intro _;exact TV t h hc
 rw[if_neg hc];have hc':p.cl=false:=by simpa using hc
 by_cases ht:t∈p.W
 ·rw[if_pos ht];intro hI;exact TW t h hc' ht hI
 rw[if_neg ht];cases hf:pV p.G t with
 |none=>intro _;exact TY t h hc' ht hf
 |some o=>intro _;exact U0 t h hc' ht hf
end
theorem Qz {B:Nat} {ev:Nat→Addr} (pages mn size:Int) (nw:Nat) (w:World) (hE:qC B ev w) (h:uF [pages] [[0]] mn mn mn≠0∨size<1∨64<size) (n1:1≤nw) (n4:nw≤4):
 Calls prog 8 #[.int .i64 pages,.int .i64 mn,.int .i64 size,.int .i64 nw] w fun en w'=>en= .returned (.tuple #[.pointer none,.pointer none,.bool false])∧Below w.heap.size w w':=by
 have hB:=hE.size;have F1:=(((jR.mk_ w [.int .i64 pages] 3 rfl).past (.cells #[.int .i64 0] 3)).past (.cells #[.slice (some ⟨w.heap.size+1,0,none⟩) 1 1] 59)).past (.cells #[.slice (some ⟨w.heap.size,0,none⟩) 1 1,.slice (some ⟨w.heap.size+2,0,none⟩) 1 1,.int .i64 mn,.int .i64 mn,.int .i64 mn] 98);have F2:=((jR.mk_ (w.alloc (.cells #[.int .i64 pages] 3)) [.int .i64 0] 3 (b:=w.heap.size+1) sI).past (.cells #[.slice (some ⟨w.heap.size+1,0,none⟩) 1 1] 59)).past (.cells #[.slice (some ⟨w.heap.size,0,none⟩) 1 1,.slice (some ⟨w.heap.size+2,0,none⟩) 1 1,.int .i64 mn,.int .i64 mn,.int .i64 mn] 98);have F3:=(jR.mk_ ((w.alloc (.cells #[.int .i64 pages] 3)).alloc (.cells #[.int .i64 0] 3)) [.slice (some ⟨w.heap.size+1,0,none⟩) 1 1] 59 (b:=w.heap.size+2) sI).past (.cells #[.slice (some ⟨w.heap.size,0,none⟩) 1 1,.slice (some ⟨w.heap.size+2,0,none⟩) 1 1,.int .i64 mn,.int .i64 mn,.int .i64 mn] 98);have F4:=jR.mk_ (((w.alloc (.cells #[.int .i64 pages] 3)).alloc (.cells #[.int .i64 0] 3)).alloc (.cells #[.slice (some ⟨w.heap.size+1,0,none⟩) 1 1] 59)) [.slice (some ⟨w.heap.size,0,none⟩) 1 1,.slice (some ⟨w.heap.size+2,0,none⟩) 1 1,.int .i64 mn,.int .i64 mn,.int .i64 mn] 98 (b:=w.heap.size+3) sI;have b0:Below w.heap.size w ((((w.alloc (.cells #[.int .i64 pages] 3)).alloc (.cells #[.int .i64 0] 3)).alloc (.cells #[.slice (some ⟨w.heap.size+1,0,none⟩) 1 1] 59)).alloc (.cells #[.slice (some ⟨w.heap.size,0,none⟩) 1 1,.slice (some ⟨w.heap.size+2,0,none⟩) 1 1,.int .i64 mn,.int .i64 mn,.int .i64 mn] 98)):=jY
 obtain⟨W0,hW0⟩:=eX (((((w.alloc (.cells #[.int .i64 pages] 3)).alloc (.cells #[.int .i64 0] 3)).alloc (.cells #[.slice (some ⟨w.heap.size+1,0,none⟩) 1 1] 59)).alloc (.cells #[.slice (some ⟨w.heap.size,0,none⟩) 1 1,.slice (some ⟨w.heap.size+2,0,none⟩) 1 1,.int .i64 mn,.int .i64 mn,.int .i64 mn] 98)));change jR ((((w.alloc _).alloc _).alloc _).alloc _) _ _ at F1;replace F1:jR W0 w.heap.size [.int .i64 pages]:=hW0▸F1;replace F2:jR W0 (w.heap.size+1) [.int .i64 0]:=hW0▸F2;replace F3:jR W0 (w.heap.size+2) [.slice (some ⟨w.heap.size+1,0,none⟩) 1 1]:=hW0▸F3;replace F4:jR W0 (w.heap.size+3) [.slice (some ⟨w.heap.size,0,none⟩) 1 1,.slice (some ⟨w.heap.size+2,0,none⟩) 1 1,.int .i64 mn,.int .i64 mn,.int .i64 mn]:=hW0▸F4;rw[hW0] at b0;have JW:Cfg [] W0 (.slice (some ⟨w.heap.size,0,none⟩) 1 1) (.slice (some ⟨w.heap.size+2,0,none⟩) 1 1) [pages] [[0]]:=by
  refine⟨xZ (us:=ints [pages]) (cap:=1) F1 (fun q=>by cases q) (by simp[ints]) (by unfold maxLen;omega),[.slice (some ⟨w.heap.size+1,0,none⟩) 1 1],rfl,xZ (cap:=1) F3 (fun q=>by cases q) sI (by unfold maxLen;omega),fun j u xs hu hxs=> ?_⟩;cases j with
  |zero=>
   simp at hu hxs;subst hu hxs;exact xZ (us:=ints [0]) (cap:=1) F2 (fun q=>by cases q) (by simp[ints]) (by unfold maxLen;omega)
  |succ j=>simp at hu
 have CE0:=EA [] (.slice (some ⟨w.heap.size,0,none⟩) 1 1) (.slice (some ⟨w.heap.size+2,0,none⟩) 1 1) [pages] [[0]] mn mn mn W0 JW;have HB0:=ah b0;have a0:=F4.gC 0;have a1:=F4.gC 1;have a2:=F4.gC 2;have a3:=F4.gC 3;have a4:=F4.gC 4;have al:=F4.lt;by_cases hc:uF [pages] [[0]] mn mn mn=0
 ·rw[hc] at CE0
  have CE:=ah (show Calls prog 43 #[.agg #[.slice (some ⟨w.heap.size,0,none⟩) 1 1,.slice (some ⟨w.heap.size+2,0,none⟩) 1 1,.int .i64 mn,.int .i64 mn,.int .i64 mn]] W0 fun e w'=>e= .returned (.int .i64 0)∧Below W0.heap.size W0 w' from CE0);have hs:=h.resolve_left (by simpa using hc);have hd:(size<1∧decide (size<1)=true)∨(¬size<1∧decide (size<1)=false∧decide (64<size)=true):=by
   by_cases h0:size<1
   ·exact .inl ⟨h0,dQt h0⟩
   ·exact .inr ⟨h0,dQf h0,dQt om⟩
  clear F1 F2 F3 F4 CE0 hc b0 JW hE h hs;rcases hd with⟨h0,d0⟩|⟨h0,d0,d1⟩;all_goals
   go_in
   go_wp2_with fail;clear hW0;refine CE.out.mono ?_;rintro r w2 ⟨rfl,hb2⟩;go_wp2;exact bodyPost_ret (v:=.tuple #[.pointer none,.pointer none,.bool false]) (by simp[results,Tryz.results8,go_sem]) rfl ⟨rfl,HB0.out.trans (hb2.mono HB0.out.size)⟩
 ·obtain⟨ce,hce⟩:=eY (uF [pages] [[0]] mn mn mn)
  rw[←hce] at CE0 hc;have hp:decide ((0:Int)<(ce:Int))=true:=dQt om;have hp0:0<ce:=om;have hp1:(0:Int)<(ce:Int):=om;have hp2:decide (0<ce)=true:=dQt hp0;have CE:=ah CE0;clear F1 F2 F3 F4 CE0 hc b0 JW hE h hce;go_in
  go_wp2_with fail;clear hW0;refine CE.out.mono ?_;rintro r w2 ⟨rfl,hb2⟩;go_wp2;exact bodyPost_ret (v:=.tuple #[.pointer none,.pointer none,.bool false]) (by simp[results,Tryz.results8,go_sem]) rfl ⟨rfl,HB0.out.trans (hb2.mono HB0.out.size)⟩
section
variable {σ:Type} {w w1 W:World} {L:List Nat} {pd e pq:Nat} {mn:Int} {O:List (List Int)} {D:vC pd e mn O w1} {w0:World} {P:FEnv σ w0} {s:σ} {p:Po}
end
section
variable {σ τ:Type} {w0 w1 w W W':World} {E:FEnv σ w0} {D:FEnv τ w1} {L:List Nat} {d:σ} {m:τ} {v v':Value}
end
section
variable {w w0 w1 W:World} {L:List Nat} {pd pc pz pdm e:Nat} {mn:Int} {O:List (List Int)} {ev:Nat→Addr} {E:sG pd pc pz e mn O ev w0} {D:vC pdm e mn O w1} {τ:Type} {T:FEnv τ w1} {d:De} {m:τ} {l:List Ob} {p:Po}
end
section
variable {w w0 w1 W:World} {L:List Nat} {pdm e:Nat} {mn:Int} {O:List (List Int)} {D:vC pdm e mn O w1} {σ:Type} {P:FEnv σ w0} {s:σ} {d:De} {l:List Ob}
end
