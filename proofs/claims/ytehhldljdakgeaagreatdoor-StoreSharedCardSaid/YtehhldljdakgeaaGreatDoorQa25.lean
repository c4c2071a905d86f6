/- Lemmas and contracts for the claim's last text: DLast, MagLastA, RDLie, RDNew. -/
import Derived.Test.YtehhldljdakgeaaGreatDoorQa01
import Derived.Test.YtehhldljdakgeaaGreatDoorQa24
set_option linter.unusedSimpArgs false
set_option linter.unusedVariables false
set_option maxHeartbeats 16000000
set_option maxRecDepth 100000
namespace Go.Proofs.YtehhldljdakgeaaGreatDoor
open Go.RowKit Go.Maps
attribute [local go_sem ↓] aJ aK
def h0 (l:List Ob) (i:Nat):Hd:=if i≤4 then(l.take i,[]) else((l.take i).drop 4,l.take 4)
def stH (l:List Ob) (i:Nat) (h:Hd):Prop:=h=h0 l i∨(i=4∧h=([],l.take 4))
section
variable {e n p:Nat} {d:De} {k:Int}
theorem pV.ord {c:Ca} (h:pV p e n c) (hO:qY [[0]] 1):qY [[0]] c.L.length:=by
 obtain⟨x,hx,_⟩:=h.one;rw[hx];exact hO
theorem UF (hO:qY [[0]] 1) (hI:oH e d) (hF:pV p e n d.c) (hn:n<p*jR e) (hk:nY d k=some ([],[])) (hP:d.P=[]):
 (takeD 0 [[0]] e d k 0 true).2.1=0∧(takeD 0 [[0]] e d k 0 true).2.2∉oM e d.c.C∧(∀x,x∈oM e (takeD 0 [[0]] e d k 0 true).1.c.C↔x=(takeD 0 [[0]] e d k 0 true).2.2∨x∈oM e d.c.C)∧
 (takeD 0 [[0]] e d k 0 true).1.H=d.H∧(takeD 0 [[0]] e d k 0 true).1.P=[]∧pV p e (n+1) (takeD 0 [[0]] e d k 0 true).1.c∧oH e (takeD 0 [[0]] e d k 0 true).1:=by
 have ld:(lZ ([],[]) d.P).1.1.getLast?=none:=by rw[hP];rfl
 have hi:=qI (mn:=0) (O:=[[0]]) (k:=k) (v:=0) (u:=true) (hF.ord hO) hI;rw[mV hk ld] at hi ⊢;obtain⟨t1,t2,t3⟩:=hF.take (mn:=0) (O:=[[0]]) hO hn;rcases DY (mn:=0) (O:=[[0]]) (hF.ord hO) hI.c 0 true with⟨_,q1,q2⟩|⟨q,_⟩
 ·exact⟨t1,q1,q2,rfl,hP,t3,hi⟩
 ·exact absurd t1 q
end
theorem Ir {base:Nat} {w:World} {q:Option Addr} {k:Nat} {l:List Ob} (h:w.ownsRow base 40 2 (.slice q l.length k) l.length (kG l)) {j:Nat} {o:Ob} (hj:l[j]?=some o):
 ∃g,q=some ⟨g,0,none⟩∧l.length≤k∧k≤maxLen∧g<w.heap.size∧w.cell? ⟨g,j*2,none⟩=some (.int .i64 o.1)∧w.cell? ⟨g,j*2+1,none⟩=some (.int .i64 o.2):=by
 have r:=pO (X:=[]) h (fun _ _ q=>by cases q);obtain⟨p,cap,e,c1,c2⟩:=r.isSlice;injection e with e1 e2 e3;subst e1 e3;rcases h.2 with⟨e4,h3⟩|⟨g',cap',cur,e4,_⟩
 ·have:=(au.1 hj).1;omega
 ·injection e4 with e5 e6 e7
  subst e5;obtain⟨g,off,t,_,gl,k0,k1⟩:=r.at hj;injection t with t;injection t with t1 t2;subst t1 t2;rw[bH] at k0 k1;exact⟨_,rfl,c1,c2,gl,k0,k1⟩
structure LsI (e i:Nat) (l:List Ob) (d:De):Prop where
 f:pV 8 e i d.c
 h:d.H=[([],[]),([],[])]
 p:d.P=[]
 nd:l.Nodup
 sub: ∀x∈l,x∈oM e d.c.C
 len:l.length=i
structure LsG (e M i:Nat) (l:List Ob) (d:De):Prop where
 f:pV 8 e M d.c
 h:d.H=h0 l i::[([],[])]
 p:d.P=[]
 nd:l.Nodup
 sub: ∀x∈l,x∈oM e d.c.C
 len:l.length=M
structure LsP (e t:Nat) (l:List Ob) (d:De):Prop where
 h: ∃g R,d.H=g::R∧stH l t g
 p:d.P=[]
section
variable {X Y S M M' F G:List Nat} {w w' w0:World} {ev:Nat→Addr} {pd gh pc pm gN e:Nat} {mn lw hi:Int} {O:List (List Int)} {v v' vp vp':Value} {A A':SA} {V V':HV} {U U':List Value} {d d':De} {c c':Ca}
theorem QY (o:Ob) (h:RC X w pc pm gN e mn lw hi O M v A c) (hI:tq e c):
 Calls Tryz.prog 128 #[.pointer (some ⟨pc,0,none⟩),.agg #[.int .i64 o.1,.int .i64 o.2]] w fun r w'=>r= .returned (.bool (decide (o∈oM e c.C)))∧Below w.heap.size w w':=by
 obtain⟨wa,hwa⟩:=eY (w.alloc (.cells #[.int .i64 o.1,.int .i64 o.2] 40));have ba:Below w.heap.size w wa:=by rw[hwa];exact jK
 have LA:=ah (show jD wa w.heap.size [.int .i64 o.1,.int .i64 o.2] from by rw[hwa];exact jD.mk_ w [.int .i64 o.1,.int .i64 o.2] 40 rfl);have TK:=ah (FY (h.below ba) hI);have few:=nO hI;obtain⟨l,hl⟩:=eY (oM e c.C);rw[←hl] at few TK ⊢;obtain⟨bb,hbb⟩:=eY (decide (o∈l));have HBB:=ah hbb;rw[←hbb];have BA:=ah ba;clear h hI hl hbb ba;go_enter Tryz.func128,Tryz.ntmps128;go_wp2_with fail;rw[←hwa];refine TK.out.mono ?_;rintro r w1 ⟨v1,rfl,hown,hb1⟩;obtain⟨q,k,rfl⟩: ∃q k,v1= .slice q l.length k:=by
  rcases hown.2 with⟨e1,e2⟩|⟨g,cap,cur,e1,_⟩
  ·exact⟨none,0,by rw[e1,e2]⟩
  ·exact⟨_,cap,e1⟩
 have HO:=ah hown;have B1:=ah (BA.out.trans (hb1.mono BA.out.size));have L1:=ah (LA.out.go hb1);have z1:=B1.out.size;clear hown hb1 TK LA BA hwa;go_wp2_with fail;go_loopw [6] (fun iv wr=>∃i:Nat,i≤l.length∧iv= .int .i64 i∧Below w1.heap.size w1 wr∧Hid (∀(j:Nat) (x:Ob),j<i→l[j]?=some x→x≠o)) (fun iv _=>l.length-(intOf iv).toNat);case atStart=>exact⟨0,bq _,by go_num,aO _ _,fun j x hj=>om⟩
 case round=>
  obtain⟨i,hi,rfl,hb,HNO⟩:=hrel;have zr:=hb.size;by_cases hlt:i<l.length
  ·obtain⟨x,hx⟩: ∃x,l[i]?=some x:=⟨l[i],aA hlt⟩
   have own':=jE HO.out (Keep.of (S:=[]) hb) (fun s hs=>by cases hs);obtain⟨g,eg,k1,k2,gl,y0,y1⟩:=Ir own' hx;subst eg;unfold maxLen at k2;have hli:(i:Int)<(l.length:Int):=om;have hl0:(0:Int)≤(i:Int):=om;have M6:=L1.out.go hb;have x0:=M6.gC 0;have x1:=M6.gC 1;have xl:=M6.lt;have eb:=eqO;have gb:=uX;have HB:=ah hb;have HXX:=ah hx;clear own' hx k1 M6 hb;cases hq:(x.1==o.1&&x.2==o.2) with
   |true=>
    have hxo:x=o:=by simp at hq;exact Prod.ext hq.1 hq.2
    have hbt:bb=true:=by rw[HBB.out];exact decide_eq_true (by rw[←hxo];exact aF HXX.out)
    subst hbt;clear hxo;go_wp2_with fail;go_quiet (fail);go_wp2;go_ret;exact⟨rfl,B1.out.trans (iF (HB.out.trans jK) z1)⟩
   |false=>
    have hxo:Hid (x≠o):=fun q=>by subst q;simp at hq
    go_wp2_with fail;go_quiet (fail);go_wp2;go_round
    case rel=>exact⟨i+1,om,by go_num,HB.out.trans jK,fun j y hj hy=>by
     rcases dX.1 hj with q|q
     ·exact HNO.out j y q hy
     ·subst q;rw[HXX.out] at hy;obtain rfl:=aI hy;exact hxo.out⟩
    case measure=>simp[intOf];omega
  ·have hbt:bb=false:=by
    rw[HBB.out];refine decide_eq_false fun q=> ?_
    obtain⟨j,hj⟩:=dh q;have:=(au.1 hj).1;exact HNO.out j o om hj rfl
   subst hbt;have HB:=ah hb;clear hb;go_wp2;go_ret;exact⟨rfl,B1.out.trans (iF HB.out z1)⟩
theorem QZ {H:List Hd} {i:Nat} {h:Hd} (hs:H[i]?=some h):lN (H.take (i+1))=lN (H.take i)++h.1++h.2:=by
 rw[bT,hs];unfold lN;simp
theorem vX (H:List Hd) (i:Nat):(lN (H.take i)).length≤(lN H).length:=by
 have:lN H=lN (H.take i)++lN (H.drop i):=by unfold lN;rw[←List.flatMap_append,bX]
 rw[this,aV];omega
theorem Ec (P:List (List Ob)) (i:Nat):((P.take i).flatten).length≤P.flatten.length:=by
 have:P.flatten=(P.take i).flatten++(P.drop i).flatten:=by rw[←List.flatten_append,bX]
 rw[this,aV];omega
theorem rlie_ok (h:RD X w pd gh pc pm gN e mn lw hi O M v A V vp U d) (hI:oH e d):
 Calls Tryz.prog 127 #[.pointer (some ⟨pd,0,none⟩)] w fun r w'=>∃v,r= .returned v∧OwnO w w' v (held d):=by
 have few:(held d).length≤65536:=bW (mW hI).2 (nO hI.c);have hHP:(held d).length=(lN d.H).length+d.P.flatten.length:=by unfold held;rw[aV]
 have HH:=ah h;have nH4:=hI.hl;have pP:d.P.length≤65536:=by have:=(mW hI).1;have:=nO hI.c;omega
 obtain⟨qp,kp,evp,kp1,kp2,_⟩:=h.pile;subst evp;have c1:=h.b.d.gC 1;have c2:=h.b.d.gC 2;have cl:=h.b.d.lt;obtain⟨H,hH⟩:=eY d.H;obtain⟨P,hP⟩:=eY d.P;obtain⟨nH,hnH⟩: ∃n,n=d.H.length:=⟨_,rfl⟩;obtain⟨nP,hnP⟩: ∃n,n=d.P.length:=⟨_,rfl⟩;have EH:=ah hH;have EP:=ah hP;have ENH:=ah hnH;have ENP:=ah hnP;have HLD:Hid (held d=lN H++P.flatten):=by show _=_;rw[hH,hP];rfl
 rw[←hH,←hP] at hHP;rw[←hnH] at c1 nH4;rw[←hnP] at c2 pP kp1;unfold maxLen at kp2;clear h hI hH hP hnH hnP;go_enter Tryz.func127,Tryz.ntmps127;go_wp2_with fail;go_loopw [3,4] (fun lv iv wr=>∃(i N:Nat) (q:Option Addr) (k:Nat),i≤nH∧iv= .int .i64 i∧lv= .slice q N k∧N≤65536∧Hid (N=(lN (H.take i)).length)∧Hid (wr.ownsRow w.heap.size 40 2 (.slice q N k) N (kG (lN (H.take i))))∧Below w.heap.size w wr) (fun _ iv _=>nH-(intOf iv).toNat);case atStart=>exact⟨0,0,none,0,bq _,by go_num,rfl,bq _,rfl,aT _ _ _ _,aO _ _⟩
 case round=>
  obtain⟨i,N,q,k,hi,rfl,rfl,hN,HNN,HO,hb⟩:=hrel;have zr:=hb.size;by_cases hlt:i<nH
  ·obtain⟨g,hg⟩: ∃g,d.H[i]?=some g:=⟨d.H[i]'(by rw[←ENH.out];exact hlt),aA _⟩
   obtain⟨⟨pa,pb⟩,hp,r1,r2,g0,g1,_,_,gl⟩:=(HH.out.below hb).hand hg;obtain⟨qa,ca,e1,_⟩:=r1.isSlice;obtain⟨qb,cb,e2,_⟩:=r2.isSlice;simp only at e1 e2 g0 g1;subst e1 e2;have hsn:lN (H.take (i+1))=lN (H.take i)++g.1++g.2:=QZ (by rw[EH.out];exact hg);have hlen:N+g.1.length+g.2.length≤65536:=by
    have h1:=vX H (i+1);rw[hsn] at h1;simp only[aV] at h1;have:=HNN.out;omega
   have R1:=ah (lG.srcO r1).2;have R2:=ah r2;have HSN:=ah hsn;have c1r:=(hb.cell (p:=⟨pd,1,none⟩) cl).trans c1;have clr:pd<wr.heap.size:=om;have i0:(0:Int)≤(i:Int):=om;have i1:(i:Int)<(nH:Int):=om;have KEEP:Hid (∀w2,Below w.heap.size wr w2→w2.cell? ⟨pd,1,none⟩=some (.slice (some ⟨gh,0,none⟩) nH nH)∧pd<w2.heap.size∧w2.cell? ⟨gh,i*2+1,none⟩=some (.slice qb g.2.length cb)∧gh<w2.heap.size∧tZ w2 qb (kG g.2)):=fun w2 b2=>by
    obtain⟨⟨pa',pb'⟩,hp',_,r2',_,g1',_,_,gl'⟩:=(HH.out.below (hb.trans b2)).hand hg;rw[hp] at hp';obtain⟨rfl,rfl⟩:=Prod.mk.inj (aI hp');exact⟨(b2.cell (p:=⟨pd,1,none⟩) cl).trans c1r,aC clr b2.size,g1',gl',(lG.srcO r2').2⟩
   obtain⟨na,hna⟩: ∃n,n=g.1.length:=⟨_,rfl⟩;obtain⟨nb,hnb⟩: ∃n,n=g.2.length:=⟨_,rfl⟩;have LA:Hid ((kG g.1).length=na*2):=by show _=_;rw[kV,hna];omega
   have LB:Hid ((kG g.2).length=nb*2):=by show _=_;rw[kV,hnb];omega
   have NEW:Hid ((lN (H.take (i+1))).length=N+na+nb):=by show _=_;rw[hsn,hna,hnb,HNN.out];simp only[aV]
   have OA:Hid (∀u∈kG g.1,u.oneCell'=true):=pI _;have OB:Hid (∀u∈kG g.2,u.oneCell'=true):=pI _;rw[←hna] at g0 hlen;rw[←hnb] at g1 hlen KEEP;have HBR:=ah hb;clear r1 r2 hsn hp hg hna hnb hb;go_wp2_with (first
    |(at_builtin;refine kM rY (base:=w.heap.size) (v:=.slice q N k) (n:=N) (m:=na) (xs:=kG (lN (H.take i))) (ms:=kG g.1) (p:=qa) rf (.tmp 15) (.tmp 23) rf rf rf HO.out LA.out R1.out OA.out om zr ?_;intro q3 k3 w2 hown3 hg3 zm;have b3:Below w.heap.size wr w2:=(aO _ _).grown hg3 zr (fun r hr=>(HO.out.lt r hr).1);obtain⟨x1,xl,x2,x3,x4⟩:=KEEP.out w2 b3;have S4:=ah x4;have HO3:=ah hown3;have HB3:=ah b3;have z3:=bW zr b3.size;clear hown3 hg3 zm b3 x4)
    |(at_builtin;go_loud (refine kM rY (base:=w.heap.size) (v:=.slice q3 (N+na) k3) (n:=N+na) (m:=nb) (xs:=kG (lN (H.take i))++kG g.1) (ms:=kG g.2) (p:=qb) rf (.tmp 25) (.tmp 33) rf rf rf HO3.out LB.out S4.out OB.out om z3 ?_);intro q4 k4 w3 jV hg4 GU;have b4:=(HBR.out.trans HB3.out).grown hg4 z3 (fun r hr=>(HO3.out.lt r hr).1);have HO4:=ah jV;have HB4:=ah b4;clear jV hg4 GU b4))
   go_roundw;case rel=>exact⟨i+1,N+na+nb,q4,k4,om,by go_num,rfl,om,NEW.out.symm,by rw[HSN.out,oU,oU];exact HO4.out,HB4.out⟩
   case measure=>simp[intOf];omega
  ·obtain rfl:i=nH:=by omega
   have HALL:lN (H.take i)=lN H:=by rw[dP (by rw[EH.out,←ENH.out];exact aH _)]
   have O0:Hid (wr.ownsRow w.heap.size 40 2 (.slice q N k) N (kG (lN H++(P.take 0).flatten))):=by
    show wr.ownsRow _ _ _ _ _ _;rw[aW,List.flatten_nil,dB,←HALL];exact HO.out
   have N0:Hid (N=(lN H++(P.take 0).flatten).length):=by show _=_;rw[aW,List.flatten_nil,dB,←HALL];exact HNN.out
   have c1r:=(hb.cell (p:=⟨pd,1,none⟩) cl).trans c1;have clr:pd<wr.heap.size:=om;clear HALL HO HNN;go_wp2_with fail;go_loopw [3,5] (fun lv iv wr=>∃(i N:Nat) (q:Option Addr) (k:Nat),i≤nP∧iv= .int .i64 i∧lv= .slice q N k∧N≤65536∧Hid (N=(lN H++(P.take i).flatten).length)∧Hid (wr.ownsRow w.heap.size 40 2 (.slice q N k) N (kG (lN H++(P.take i).flatten)))∧Below w.heap.size w wr) (fun _ iv _=>nP-(intOf iv).toNat);case atStart=>exact⟨0,N,q,k,bq _,by go_num,rfl,hN,N0,O0,hb⟩
   case round=>
    clear c1r clr O0 N0 hb zr hN;obtain⟨j,N,q,k,hj,rfl,rfl,hN,HNN,HO,hb⟩:=hrel;have zr:=hb.size;have c2r:=(hb.cell (p:=⟨pd,2,none⟩) cl).trans c2;have clr:pd<_:=aC cl zr;by_cases hlt:j<nP
    ·obtain⟨m,hm⟩: ∃m,d.P[j]?=some m:=⟨d.P[j]'(by rw[←ENP.out];exact hlt),aA _⟩
     obtain⟨qp',kp',evp',_,_,UD⟩:=(HH.out.below hb).pile;rw[←ENP.out] at evp';obtain⟨rfl,_,rfl⟩:=eH evp';obtain⟨u,g,of,hu,eg,_,gl,gc,ru⟩:=UD j m hm;subst eg;obtain⟨qa,ca,e1,_⟩:=ru.isSlice;subst e1;have hsn:(P.take (j+1)).flatten=(P.take j).flatten++m:=UE (by rw[EP.out];exact hm);have hlen:N+m.length≤65536:=by
      have h1:=Ec P (j+1);rw[hsn] at h1;simp only[aV] at h1;have:=HNN.out;rw[aV] at this;omega
     have R1:=ah (lG.srcO ru).2;have HSN:=ah hsn;have i0:(0:Int)≤(j:Int):=om;have i1:(j:Int)<(nP:Int):=om;obtain⟨na,hna⟩: ∃n,n=m.length:=⟨_,rfl⟩;have LA:Hid ((kG m).length=na*2):=by show _=_;rw[kV,hna];omega
     have NEW:Hid ((lN H++(P.take (j+1)).flatten).length=N+na):=by show _=_;rw[hsn,hna,HNN.out];simp only[aV];omega
     have OA:Hid (∀u∈kG m,u.oneCell'=true):=pI _;rw[←hna] at gc hlen;have HBR:=ah hb;clear ru hsn hm hna hb hu UD evp';go_wp2_with (at_builtin;refine kM rY (base:=w.heap.size) (v:=.slice q N k) (n:=N) (m:=na) (xs:=kG (lN H++(P.take j).flatten)) (ms:=kG m) (p:=qa) rf (.tmp 44) (.tmp 51) rf rf rf HO.out LA.out R1.out OA.out om zr ?_;intro q3 k3 w2 hown3 hg3 zm;have b3:=HBR.out.grown hg3 zr (fun r hr=>(HO.out.lt r hr).1);have HO3:=ah hown3;have HB3:=ah b3;clear hown3 hg3 zm b3);go_roundw;case rel=>exact⟨j+1,N+na,q3,k3,om,by go_num,rfl,om,NEW.out.symm,by rw[HSN.out,←bS,oU];exact HO3.out,HB3.out⟩
     case measure=>simp[intOf];omega
    ·obtain rfl:j=nP:=by omega
     have HALL:P.take j=P:=dP (by rw[EP.out,←ENP.out];exact aH _);have HO':=HO.out;have HN':=HNN.out;rw[HALL,←HLD.out] at HO' HN';have HO2:=ah HO';have HN2:=ah HN';have HB:=ah hb;clear HO HNN HO' HN' HALL hb;go_wp2;go_ret;exact⟨_,rfl,by rw[←HN2.out];exact HO2.out,HB.out⟩
theorem zo (o:Ob) (h:RD X w pd gh pc pm gN e mn lw hi O M v A V vp U d) (hI:oH e d):
 Calls Tryz.prog 95 #[.pointer (some ⟨pd,0,none⟩),.agg #[.int .i64 o.1,.int .i64 o.2]] w fun r w'=>r= .returned (.bool (za e d o))∧Below w.heap.size w w':=by
 obtain⟨wa,hwa⟩:=eY (w.alloc (.cells #[.int .i64 o.1,.int .i64 o.2] 40));have ba:Below w.heap.size w wa:=by rw[hwa];exact jK
 have LA:=ah (show jD wa w.heap.size [.int .i64 o.1,.int .i64 o.2] from by rw[hwa];exact jD.mk_ w [.int .i64 o.1,.int .i64 o.2] 40 rfl);have TK:=ah (rlie_ok (h.below ba) hI);have IT:Hid (∀W,Below w.heap.size w W→Calls Tryz.prog 128 #[.pointer (some ⟨pc,0,none⟩),.agg #[.int .i64 o.1,.int .i64 o.2]] W fun r w'=>r= .returned (.bool (decide (o∈oM e d.c.C)))∧Below W.heap.size W w'):=fun W hW=>QY o (h.c.below hW) hI.c
 have few:(held d).length≤65536:=bW (mW hI).2 (nO hI.c);have c0:=h.b.d.gC 0;have cl:=h.b.d.lt;obtain⟨l,hl⟩:=eY (held d);obtain⟨tb,htb⟩:=eY (decide (o∈oM e d.c.C));obtain⟨ob,hob⟩:=eY (za e d o);have EO:Hid (ob=(tb&& !decide (o∈l))):=by show _=_;rw[hob,htb,hl];rfl
 rw[←hob];rw[←hl] at few TK;rw[←htb] at IT;have BA:=ah ba;clear h hI hl htb ba hob;go_enter Tryz.func95,Tryz.ntmps95;go_wp2_with fail;rw[←hwa];refine TK.out.mono ?_;rintro r w1 ⟨v1,rfl,hown,hb1⟩;obtain⟨q,k,rfl⟩: ∃q k,v1= .slice q l.length k:=by
  rcases hown.2 with⟨e1,e2⟩|⟨g,cap,cur,e1,_⟩
  ·exact⟨none,0,by rw[e1,e2]⟩
  ·exact⟨_,cap,e1⟩
 have HO:=ah hown;have B1:=ah (BA.out.trans (hb1.mono BA.out.size));have L1:=ah (LA.out.go hb1);have z1:=B1.out.size;clear hown hb1 TK LA BA hwa;go_wp2_with fail;go_loopw [6] (fun iv wr=>∃i:Nat,i≤l.length∧iv= .int .i64 i∧Below w1.heap.size w1 wr∧Hid (∀(j:Nat) (x:Ob),j<i→l[j]?=some x→x≠o)) (fun iv _=>l.length-(intOf iv).toNat);case atStart=>exact⟨0,bq _,by go_num,aO _ _,fun j x hj=>om⟩
 case round=>
  obtain⟨i,hi,rfl,hb,HNO⟩:=hrel;have zr:=hb.size;have M6:=L1.out.go hb;have x0:=M6.gC 0;have x1:=M6.gC 1;have xl:=M6.lt;by_cases hlt:i<l.length
  ·obtain⟨x,hx⟩: ∃x,l[i]?=some x:=⟨l[i],aA hlt⟩
   have own':=jE HO.out (Keep.of (S:=[]) hb) (fun s hs=>by cases hs);obtain⟨g,eg,k1,k2,gl,y0,y1⟩:=Ir own' hx;subst eg;unfold maxLen at k2;have hli:(i:Int)<(l.length:Int):=om;have hl0:(0:Int)≤(i:Int):=om;have eb:=eqO;have gb:=uX;have HB:=ah hb;have HXX:=ah hx;clear own' hx k1 M6 hb c0;cases hq:(x.1==o.1&&x.2==o.2) with
   |true=>
    have hxo:x=o:=by simp at hq;exact Prod.ext hq.1 hq.2
    have hbt:ob=false:=by rw[EO.out,decide_eq_true (show o∈l from by rw[←hxo];exact aF HXX.out)];simp
    subst hbt;clear hxo;go_wp2_with fail;go_quiet (fail);go_wp2;go_ret;exact⟨rfl,B1.out.trans (iF (HB.out.trans jK) z1)⟩
   |false=>
    have hxo:Hid (x≠o):=fun q=>by subst q;simp at hq
    go_wp2_with fail;go_quiet (fail);go_wp2;go_round
    case rel=>exact⟨i+1,om,by go_num,HB.out.trans jK,fun j y hj hy=>by
     rcases dX.1 hj with q|q
     ·exact HNO.out j y q hy
     ·subst q;rw[HXX.out] at hy;obtain rfl:=aI hy;exact hxo.out⟩
    case measure=>simp[intOf];omega
  ·have hbt:ob=tb:=by
    rw[EO.out,decide_eq_false (fun q=> ?_)]
    ·simp
    ·obtain⟨j,hj⟩:=dh q
     have:=(au.1 hj).1;exact HNO.out j o om hj rfl
   subst hbt;have HB:=ah (B1.out.trans (iF hb z1));have ITW:=ah (fun W (hW:Below wr.heap.size wr W)=>IT.out W (HB.out.trans (hW.mono HB.out.size)));have c0r:=(HB.out.cell (p:=⟨pd,0,none⟩) cl).trans c0;have clr:pd<wr.heap.size:=om;clear hb M6 IT c0;go_wp2_with fail;refine jL kR kR ?_;repeat(go_big_quiet_step (((go_at_call 128;exact Calls.behind (ITW.out _ (Behind.h _))))))
   refine wpQuiet_nil ?_;intro w5 hw';have hb5:=kS hw';clear hw';have z5:=hb5.size;try simp at z5
   go_wp2;go_ret;exact⟨rfl,HB.out.trans (iF hb5 HB.out.size)⟩
end
section
variable {X Y S M M' F G:List Nat} {B:Nat} {w w' w0:World} {ev:Nat→Addr} {pd pc pz gh pdm ghm pcm pm gN e:Nat} {mn lw hi:Int} {O:List (List Int)} {v v' vp vp':Value} {A A':SA} {V V':HV} {U U':List Value} {d d' m:De} {c c':Ca} {L:List Nd}
theorem rdnew_ok (pc:Nat) (n:Nat) (w:World) (n1:1≤n) (n4:n≤4):
 Calls Tryz.prog 48 #[.pointer (some ⟨pc,0,none⟩),.int .i64 n] w fun r w'=>r= .returned (.pointer (some ⟨w.heap.size+1,0,none⟩))∧w'=(w.alloc (.cells (l6 (List.replicate n Br)).toArray 153)).alloc (.cells #[.pointer (some ⟨pc,0,none⟩),.slice (some ⟨w.heap.size,0,none⟩) n n,.slice none 0 0] 129):=by
 have h:n=1∨n=2∨n=3∨n=4:=om;have em:madeCells (Value.agg #[.slice none 0 0,.slice none 0 0]).cells (n*2)=(l6 (List.replicate n Br)).toArray:=by rcases h with rfl|rfl|rfl|rfl<;>kernel_rfl
 have MK: ∀W:World,(Instr.makeSlice 126 (.int .i64 (n:Nat)) (.int .i64 (n:Nat))).run Tryz.prog W= .ok (.slice (some ⟨W.heap.size,0,none⟩) n n) (W.alloc (.cells (l6 (List.replicate n Br)).toArray 153)):=fun W=>by
  obtain⟨i0,hi0,hz0,hzs,hzb⟩:=info_parts (P:=Tryz.prog) (e:=153) (z:=.agg #[.slice none 0 0,.slice none 0 0]) (size:=2) (bytes:=48) kR;have:=run_make (P:=Tryz.prog) W 126 153 i0 _ Tryz.underlying126 hi0 hz0 .i64 .i64 (n:Nat) (n:Nat) om (cO _) (by rw[hzb];omega) om;rw[this,hzs,←em];simp only[bQ]
 rcases h with rfl|rfl|rfl|rfl
 ·have MK':(Instr.makeSlice 126 (.int .i64 1) (.int .i64 1)).run Tryz.prog w= .ok (.slice (some ⟨w.heap.size,0,none⟩) 1 1) (w.alloc (.cells (l6 (List.replicate 1 Br)).toArray 153)):=MK w
  clear MK em;go_enter Tryz.func48,Tryz.ntmps48;go_wp2;go_ret;exact⟨rfl,rfl⟩
 ·have MK':(Instr.makeSlice 126 (.int .i64 2) (.int .i64 2)).run Tryz.prog w= .ok (.slice (some ⟨w.heap.size,0,none⟩) 2 2) (w.alloc (.cells (l6 (List.replicate 2 Br)).toArray 153)):=MK w
  clear MK em;go_enter Tryz.func48,Tryz.ntmps48;go_wp2;go_ret;exact⟨rfl,rfl⟩
 ·have MK':(Instr.makeSlice 126 (.int .i64 3) (.int .i64 3)).run Tryz.prog w= .ok (.slice (some ⟨w.heap.size,0,none⟩) 3 3) (w.alloc (.cells (l6 (List.replicate 3 Br)).toArray 153)):=MK w
  clear MK em;go_enter Tryz.func48,Tryz.ntmps48;go_wp2;go_ret;exact⟨rfl,rfl⟩
 ·have MK':(Instr.makeSlice 126 (.int .i64 4) (.int .i64 4)).run Tryz.prog w= .ok (.slice (some ⟨w.heap.size,0,none⟩) 4 4) (w.alloc (.cells (l6 (List.replicate 4 Br)).toArray 153)):=MK w
  clear MK em;go_enter Tryz.func48,Tryz.ntmps48;go_wp2;go_ret;exact⟨rfl,rfl⟩
theorem RD.start (hrz:RZ X w pm gN mn lw hi O M L) (hX: ∀x∈X,x<w.heap.size) (n:Nat)
 (hw':w'=(((w.alloc (.cells #[.pointer (some ⟨pm,0,none⟩),.int .i64 e,.slice none 0 0] 116)).alloc (.cells (l6 (List.replicate n Br)).toArray 153)).alloc (.cells #[.pointer (some ⟨w.heap.size,0,none⟩),.slice (some ⟨w.heap.size+1,0,none⟩) n n,.slice none 0 0] 129))):
 RD ((w.heap.size+2)::(w.heap.size+1)::w.heap.size::X) w' (w.heap.size+2) (w.heap.size+1) w.heap.size pm gN e mn lw hi O M (.slice none 0 0) [] (List.replicate n Br) (.slice none 0 0) [] ⟨⟨L,[]⟩,List.replicate n ([],[]),[]⟩:=by
 have b:Below w.heap.size w w':=by rw[hw'];exact jK
 have hrc:D7 w.heap.size []=[w.heap.size]:=rfl;have lpm:pm<w.heap.size:=by obtain⟨vP,vN,kn,ko,qo,q1,_⟩:=hrz.z;exact q1.lt
 have lgN:=hrz.nodes.lt;have hr: ∀y∈rcs w.heap.size pm gN [] M,y≤w.heap.size:=fun y hy=>by
  rcases aD.1 hy with q|q
  ·rw[hrc] at q;simp at q;omega
  ·rcases aB.1 q with rfl|q
   ·omega
   ·rcases aB.1 q with rfl|q
    ·omega
    ·have:=hrz.lt q;omega
 refine⟨⟨(hrz.more (fun x hx=>ak _ (ak _ (ak _ hx))) (fun y hy=> ?_)).below b,⟨?_,nC.nil _ _,rfl,fun i p s hp=>by simp at hp,fun y hy=> ?_,?_,.inl rfl⟩,fun y hy=> ?_⟩,⟨?_,?_,sI,fun i p g hp hg=> ?_,nC.nil _ _,rfl,fun i u m hu=>by simp at hu,⟨sI,sI⟩,sI⟩,fun q=>by have:=hr _ q;omega,fun q=>by have:=hr _ q;omega⟩
 ·simp at hy
  rcases hy with rfl|rfl|rfl|q
  ·exact .inr om
  ·exact .inr om
  ·exact .inr om
  ·exact .inl q
 ·rw[hw']
  exact((jD.mk_ w [.pointer (some ⟨pm,0,none⟩),.int .i64 e,.slice none 0 0] 116 rfl).past _).past _
 ·rw[hrc] at hy;simp at hy;subst hy;simp
 ·rw[hrc];simp
 ·rw[hrc] at hy;simp at hy;subst hy
  exact⟨om,om,fun q=>by have:=hrz.lt q;omega⟩
 ·rw[hw']
  simp only[List.length_replicate];exact jD.mk_ _ [.pointer (some ⟨w.heap.size,0,none⟩),.slice (some ⟨w.heap.size+1,0,none⟩) n n,.slice none 0 0] 129 sI
 ·rw[hw']
  exact(jD.mk_ _ (l6 (List.replicate n Br)) 153 sI).past _
 ·rw[fq] at hp hg
  split at hp
  ·rw[if_pos aM] at hg
   obtain rfl:=aI hp;obtain rfl:=aI hg;exact⟨lG.nil _ _,lG.nil _ _⟩
  ·cases hp
theorem DZX.start {w3 w8 w12 w15:World} {X0:List Nat} {nw:Nat} (hs:DpS w3.heap.size w3 pd pc pz gh mn lw hi O e X0 [] ⟨⟨L,[]⟩,List.replicate nw ([],[]),[]⟩ w8) (b12:Below w8.heap.size w8 w12) (hrz:RZ X w12 pm gN mn lw hi O M L)
 (h1: ∀x∈X,(x∈X0∨w8.heap.size≤x)∧x<w12.heap.size) (h2: ∀y∈X0,y∈X) (h3:pm∉X0) (h4:gN∉X0) (h5: ∀m∈M,m∉X0)
 (hw':w15=(((w12.alloc (.cells #[.pointer (some ⟨pm,0,none⟩),.int .i64 e,.slice none 0 0] 116)).alloc (.cells (l6 (List.replicate nw Br)).toArray 153)).alloc (.cells #[.pointer (some ⟨w12.heap.size,0,none⟩),.slice (some ⟨w12.heap.size+1,0,none⟩) nw nw,.slice none 0 0] 129))):
 DZX w3 ((w12.heap.size+2)::(w12.heap.size+1)::w12.heap.size::X) [] pd pc pz gh (w12.heap.size+2) (w12.heap.size+1) w12.heap.size pm gN e mn lw hi O ⟨⟨L,[]⟩,List.replicate nw ([],[]),[]⟩ ⟨⟨L,[]⟩,List.replicate nw ([],[]),[]⟩ w15:=by
 have r:=RD.start (e:=e) hrz (fun x hx=>(h1 x hx).2) nw hw';have b15:Below w12.heap.size w12 w15:=by rw[hw'];exact jK
 have s15:w15.heap.size=w12.heap.size+3:=by rw[hw'];simp
 have z12:=b12.size;refine⟨M,.slice none 0 0,[],List.replicate nw Br,.slice none 0 0,[],hs.addZ (S:=[]) hs.bel.size (Keep.of (b12.trans (b15.mono z12))) (fun s q=>by cases q) (fun x q=>ak _ (ak _ (ak _ (h2 x q)))) (fun y q=> ?_) (fun f q=>⟨.inr ?_,?_⟩),r,fun f q=>by cases q⟩
 ·simp at q
  rcases q with rfl|rfl|rfl|q
  ·exact⟨.inr om,om⟩
  ·exact⟨.inr om,om⟩
  ·exact⟨.inr om,om⟩
  ·exact⟨(h1 y q).1,by have:=(h1 y q).2;omega⟩
 ·rw[dB] at q
  have nw': ∀x∈X,x∉X0→w8.heap.size≤x:=fun x hx hn=>(h1 x hx).1.resolve_left hn
  have hrc:D7 w12.heap.size []=[w12.heap.size]:=rfl;rcases aB.1 q with rfl|q
  ·omega
  ·rcases aB.1 q with rfl|q
   ·omega
   ·rcases aD.1 q with q|q
    ·rw[hrc] at q;simp at q;omega
    ·rcases aB.1 q with rfl|q
     ·exact nw' _ hrz.mem.1 h3
     ·rcases aB.1 q with rfl|q
      ·exact nw' _ hrz.mem.2 h4
      ·exact nw' _ (hrz.memM q) (h5 f q)
 ·rw[dB] at q
  exact r.mem f q
end
end Go.Proofs.YtehhldljdakgeaaGreatDoor
