/- Lemmas. -/
import Derived.Test.YtehhldljdakgeaaGreatDoorQb01
import Derived.Test.YtehhldljdakgeaaGreatDoorQb17
set_option linter.unusedSimpArgs false
set_option linter.unusedVariables false
set_option maxHeartbeats 16000000
set_option maxRecDepth 100000
namespace Go.Proofs.YtehhldljdakgeaaGreatDoor
open Go.RowKit Go.Maps Go.Proofs.Tryz
attribute [local go_sem ↓] aJ aK
theorem run_appM {T E:TypeId} {z:Value} {s b:Nat} (hE:ElS T E z s b) {w:World} (ty:TypeId) {base:Nat} {v:Value} {n m:Nat} {xs ms:List Value} (hown:w.ownsRow base E s v n xs) {p:Option Addr} {c:Nat} (hm:ms.length=m*s) (hs:uP w p ms) (h1: ∀u∈ms,u.oneCell'=true)
 (hl:n+m≤70000) (hb:base≤w.heap.size):
 ∃q k w',(Builtin.append_ #[T,T] ty #[v,.slice p m c]).run prog w= .ok (.slice q (n+m) k) w'∧w'.ownsRow base E s (.slice q (n+m) k) (n+m) (xs++ms)∧w.grownBy w' v.ownBlock∧
  ((Value.slice q (n+m) k).ownBlock=v.ownBlock∨(Value.slice q (n+m) k).ownBlock=some w.heap.size):=by
 obtain⟨i0,hi,hz0,hz1,hz2⟩:=info_parts hE.info;have ht:=hE.und;have zY:=hE.few;have hpos:=hE.pos;rcases hs with⟨rfl,hms⟩|⟨a,rfl,hc⟩
 ·subst hms
  have hm0:m=0:=by
   rcases Nat.eq_zero_or_pos m with q|q
   ·exact q
   ·have h2:=Nat.mul_pos q hpos
    rw[List.length_nil] at hm;omega
  subst hm0;rcases hown.2 with⟨rfl,hu⟩|⟨g,cap,cur,rfl,_,_,hnc,_⟩
  ·refine⟨none,0,w,?_,?_,⟨rfl,rfl,rfl,aI _,fun _ _ _=>rfl⟩,.inl rfl⟩
   ·simp[Builtin.append_,run_underlying ht,sizeOf,typeInfo,hi,Builtin.lenOf,Builtin.firstCells,hu]
   ·subst hu
    simpa using hown
  ·refine⟨some ⟨g,0,none⟩,cap,w,?_,by simpa using hown,⟨rfl,rfl,rfl,aI _,fun _ _ _=>rfl⟩,.inl rfl⟩
   simp[Builtin.append_,run_underlying ht,sizeOf,typeInfo,hi,Builtin.lenOf,Builtin.firstCells,hnc,storeCells]
 ·obtain⟨v',w',hrun,h2,h3,_,h5⟩:=run_append_own_at (P:=prog) w base T ty E i0 z s b ht hi hz0 hz1 hz2 hE.one hE.pos v n xs hown a m c ms
   hm hc h1 (by unfold maxLen;omega) (by
    have:(n+m)*b≤70000*64:=eP hl zY;omega) hb
  have hf: ∃q k,v'= .slice q (n+m) k:=by
   rcases h2.2 with⟨e,e2⟩|⟨g',cap',cur,e,_⟩
   ·exact⟨none,0,by rw[e,e2]⟩
   ·exact⟨_,_,e⟩
  obtain⟨q,k,rfl⟩:=hf;exact⟨q,k,w',hrun,h2,h3,h5⟩
theorem kP {T E:TypeId} {z:Value} {s b:Nat} (hE:ElS T E z s b) {base:Nat} {v:Value} {n m:Nat} {xs ms:List Value} {w:World} {p:Option Addr} {c:Nat} {ops:Array Oper} {rest:List Oper} {o:Oper} {a:Act} {Q:Exit→Act→World→Prop} (hgd:o.guard=none) (sl x:Operand)
 (ho:o.op= .call {callee:=.builtin .append,args:=#[sl,x],argTypes:=#[T,T]}) (hv:a.eval sl=v) (hx:a.eval x= .slice p m c)
 (hown:w.ownsRow base E s v n xs) (hm:ms.length=m*s) (hs:uP w p ms) (h1: ∀u∈ms,u.oneCell'=true) (hl:n+m≤70000) (hb:base≤w.heap.size)
 (h: ∀q k w',w'.ownsRow base E s (.slice q (n+m) k) (n+m) (xs++ms)→w.grownBy w' v.ownBlock→((Value.slice q (n+m) k).ownBlock=v.ownBlock∨(Value.slice q (n+m) k).ownBlock=some w.heap.size)→wpList prog ops Q rest (a.put o.dst (.slice q (n+m) k)) w'):wpList prog ops Q (o::rest) a w:=by
 refine wpList_plain hgd fun K hK=> ?_
 obtain⟨q,k,w',hrun,h2,h3,h5⟩:=run_appM hE (w:=w) o.type hown hm hs h1 hl hb (c:=c);unfold Oper.wp execOp;simp only[ho,resolve,invoke,builtin,fH,fQ,dZ,eD,bH,eu,hv,hx,hrun];exact hK _ _ (h q k w' h2 h3 h5)
section
variable {X Y S F G:List Nat} {B:Nat} {ev:Nat→Addr} {w w' w0 w1:World} {pd pc pz gh e:Nat} {mn lw hi:Int} {O:List (List Int)} {v vp:Value} {A:SA} {V:HV} {U:List Value} {d d':De} {c c':Ca}
theorem mD.srcO {q:Option Addr} {n k:Nat} {l:List Ob} (h:mD X w (.slice q n k) l):n=l.length∧uP w q (l8 l):=by
 obtain⟨p,cap,h1,h2,h3,h4⟩:=h;injection h1 with e1 e2 e3;subst e1 e2 e3;refine⟨rfl,?_⟩;cases l with
 |nil=>
  cases q with
  |none=>exact .inl ⟨rfl,rfl⟩
  |some a=>exact .inr ⟨a,rfl,fun j u hj=>by simp[l8] at hj⟩
 |cons b r=>
  obtain⟨g,off,t,_⟩:=h4 0 b.1 b.2 rfl;subst t;refine .inr ⟨_,rfl,Ea fun j a k hj=> ?_⟩;obtain⟨g',off',t,_,_,c0,c1⟩:=h4 j a k hj;injection t with t;injection t with t1 t2;subst t1 t2;exact⟨c0,c1⟩
theorem Wp {P:List (List Ob)} {i:Nat} {m:List Ob} (h:P[i]?=some m):(P.take (i+1)).flatten=(P.take i).flatten++m:=by
 rw[bR,h];simp
end
def h0 (l:List Ob) (i:Nat):Hd:=if i≤4 then(l.take i,[]) else((l.take i).drop 4,l.take 4)
def stH (l:List Ob) (i:Nat) (h:Hd):Prop:=h=h0 l i∨(i=4∧h=([],l.take 4))
section
variable {e n p:Nat} {d:De} {k:Int}
theorem qV.ord {c:Ca} (h:qV p e n c) (hO:rM [[0]] 1):rM [[0]] c.L.length:=by
 obtain⟨x,hx,_⟩:=h.one;rw[hx];exact hO
theorem Wq (hO:rM [[0]] 1) (hI:pU e d) (hF:qV p e n d.c) (hn:n<p*kL e) (hk:p8 d k=some ([],[])) (hP:d.P=[]):
 (takeD 0 [[0]] e d k 0 true).2.1=0∧(takeD 0 [[0]] e d k 0 true).2.2∉qj e d.c.C∧(∀x,x∈qj e (takeD 0 [[0]] e d k 0 true).1.c.C↔x=(takeD 0 [[0]] e d k 0 true).2.2∨x∈qj e d.c.C)∧
 (takeD 0 [[0]] e d k 0 true).1.H=d.H∧(takeD 0 [[0]] e d k 0 true).1.P=[]∧qV p e (n+1) (takeD 0 [[0]] e d k 0 true).1.c∧pU e (takeD 0 [[0]] e d k 0 true).1:=by
 have ld:(ni ([],[]) d.P).1.1.getLast?=none:=by rw[hP];rfl
 have hi:=sw (mn:=0) (O:=[[0]]) (k:=k) (v:=0) (u:=true) (hF.ord hO) hI;rw[o8 hk ld] at hi ⊢;obtain⟨t1,t2,t3⟩:=hF.take (mn:=0) (O:=[[0]]) hO hn;rcases FQ (mn:=0) (O:=[[0]]) (hF.ord hO) hI.c 0 true with⟨_,q1,q2⟩|⟨q,_⟩
 ·exact⟨t1,q1,q2,rfl,hP,t3,hi⟩
 ·exact absurd t1 q
end
theorem JU {base:Nat} {w:World} {q:Option Addr} {k:Nat} {l:List Ob} (h:w.ownsRow base 40 2 (.slice q l.length k) l.length (l8 l)) {j:Nat} {o:Ob} (hj:l[j]?=some o):
 ∃g,q=some ⟨g,0,none⟩∧l.length≤k∧k≤maxLen∧g<w.heap.size∧w.cell? ⟨g,j*2,none⟩=some (.int .i64 o.1)∧w.cell? ⟨g,j*2+1,none⟩=some (.int .i64 o.2):=by
 have r:=qX (X:=[]) h (fun _ _ q=>by cases q);obtain⟨p,cap,e,c1,c2⟩:=r.isSlice;injection e with e1 e2 e3;subst e1 e3;rcases h.2 with⟨e4,h3⟩|⟨g',cap',cur,e4,_⟩
 ·have:=(au.1 hj).1;omega
 ·injection e4 with e5 e6 e7
  subst e5;obtain⟨g,off,t,_,gl,k0,k1⟩:=r.at hj;injection t with t;injection t with t1 t2;subst t1 t2;rw[bK] at k0 k1;exact⟨_,rfl,c1,c2,gl,k0,k1⟩
structure LsI (e i:Nat) (l:List Ob) (d:De):Prop where
 f:qV 8 e i d.c
 h:d.H=[([],[]),([],[])]
 p:d.P=[]
 nd:l.Nodup
 sub: ∀x∈l,x∈qj e d.c.C
 len:l.length=i
structure LsG (e M i:Nat) (l:List Ob) (d:De):Prop where
 f:qV 8 e M d.c
 h:d.H=h0 l i::[([],[])]
 p:d.P=[]
 nd:l.Nodup
 sub: ∀x∈l,x∈qj e d.c.C
 len:l.length=M
structure LsP (e t:Nat) (l:List Ob) (d:De):Prop where
 h: ∃g R,d.H=g::R∧stH l t g
 p:d.P=[]
section
variable {X Y S M M' F G:List Nat} {w w' w0:World} {ev:Nat→Addr} {pd gh pc pm gN e:Nat} {mn lw hi:Int} {O:List (List Int)} {v v' vp vp':Value} {A A':SA} {V V':HV} {U U':List Value} {d d':De} {c c':Ca}
theorem Tq (o:Ob) (h:RC X w pc pm gN e mn lw hi O M v A c) (hI:uR e c):
 Calls prog 128 #[.pointer (some ⟨pc,0,none⟩),.agg #[.int .i64 o.1,.int .i64 o.2]] w fun r w'=>r= .returned (.bool (decide (o∈qj e c.C)))∧Below w.heap.size w w':=by
 obtain⟨wa,hwa⟩:=eY (w.alloc (.cells #[.int .i64 o.1,.int .i64 o.2] 40));have ba:Below w.heap.size w wa:=by rw[hwa];exact jY
 have LA:=ah (show jR wa w.heap.size [.int .i64 o.1,.int .i64 o.2] from by rw[hwa];exact jR.mk_ w [.int .i64 o.1,.int .i64 o.2] 40 rfl);have TK:=ah (Ig (h.below ba) hI);have few:=oU hI;obtain⟨l,hl⟩:=eY (qj e c.C);rw[←hl] at few TK ⊢;obtain⟨bb,hbb⟩:=eY (decide (o∈l));have HBB:=ah hbb;rw[←hbb];have BA:=ah ba;clear h hI hl hbb ba;go_in
 go_wp2_with fail;rw[←hwa];refine TK.out.mono ?_;rintro r w1 ⟨v1,rfl,hown,hb1⟩;obtain⟨q,k,rfl⟩: ∃q k,v1= .slice q l.length k:=by
  rcases hown.2 with⟨e1,e2⟩|⟨g,cap,cur,e1,_⟩
  ·exact⟨none,0,by rw[e1,e2]⟩
  ·exact⟨_,cap,e1⟩
 have HO:=ah hown;have B1:=ah (BA.out.trans (hb1.mono BA.out.size));have L1:=ah (LA.out.go hb1);have z1:=B1.out.size;clear hown hb1 TK LA BA hwa;go_wp2_with fail;go_loopw [6] (fun iv wr=>∃i:Nat,i≤l.length∧iv= .int .i64 i∧Below w1.heap.size w1 wr∧Hid (∀(j:Nat) (x:Ob),j<i→l[j]?=some x→x≠o)) (fun iv _=>l.length-(intOf iv).toNat);case atStart=>exact⟨0,bq _,by go_num,aL _ _,fun j x hj=>om⟩
 case round=>
  obtain⟨i,hi,rfl,hb,HNO⟩:=hrel;have zr:=hb.size;by_cases hlt:i<l.length
  ·obtain⟨x,hx⟩: ∃x,l[i]?=some x:=⟨l[i],aA hlt⟩
   have own':=jQ HO.out (Keep.of (S:=[]) hb) (fun s hs=>by cases hs);obtain⟨g,eg,k1,k2,gl,y0,y1⟩:=JU own' hx;subst eg;unfold maxLen at k2;have hli:(i:Int)<(l.length:Int):=om;have hl0:(0:Int)≤(i:Int):=om;have M6:=L1.out.go hb;have x0:=M6.gC 0;have x1:=M6.gC 1;have xl:=M6.lt;have eb:=eqO;have gb:=wQ;have HB:=ah hb;have HXX:=ah hx;clear own' hx k1 M6 hb;cases hq:(x.1==o.1&&x.2==o.2) with
   |true=>
    have hxo:x=o:=by simp at hq;exact Prod.ext hq.1 hq.2
    have hbt:bb=true:=by rw[HBB.out];exact dQt (by rw[←hxo];exact aF HXX.out)
    subst hbt;clear hxo;go_wp2_with fail;go_quiet (fail);go_wp2;go_ret;exact⟨rfl,B1.out.trans (iO (HB.out.trans jY) z1)⟩
   |false=>
    have hxo:Hid (x≠o):=fun q=>by subst q;simp at hq
    go_wp2_with fail;go_quiet (fail);go_wp2;go_round
    case rel=>exact⟨i+1,om,by go_num,HB.out.trans jY,fun j y hj hy=>by
     rcases dP.1 hj with q|q
     ·exact HNO.out j y q hy
     ·subst q;rw[HXX.out] at hy;obtain rfl:=aO hy;exact hxo.out⟩
    case measure=>simp[intOf];omega
  ·have hbt:bb=false:=by
    rw[HBB.out];refine dQf fun q=> ?_
    obtain⟨j,hj⟩:=dA q;have:=(au.1 hj).1;exact HNO.out j o om hj rfl
   subst hbt;have HB:=ah hb;clear hb;go_wp2;go_ret;exact⟨rfl,B1.out.trans (iO HB.out z1)⟩
theorem Tt {H:List Hd} {i:Nat} {h:Hd} (hs:H[i]?=some h):mQ (H.take (i+1))=mQ (H.take i)++h.1++h.2:=by
 rw[bR,hs];unfold mQ;simp
theorem xQ (H:List Hd) (i:Nat):(mQ (H.take i)).length≤(mQ H).length:=by
 have:mQ H=mQ (H.take i)++mQ (H.drop i):=by unfold mQ;rw[←List.flatMap_append,bX]
 rw[this,aW];omega
theorem FZ (P:List (List Ob)) (i:Nat):((P.take i).flatten).length≤P.flatten.length:=by
 have:P.flatten=(P.take i).flatten++(P.drop i).flatten:=by rw[←List.flatten_append,bX]
 rw[this,aW];omega
theorem rlie_ok (h:RD X w pd gh pc pm gN e mn lw hi O M v A V vp U d) (hI:pU e d):
 Calls prog 127 #[.pointer (some ⟨pd,0,none⟩)] w fun r w'=>∃v,r= .returned v∧OwnO w w' v (held d):=by
 have few:(held d).length≤65536:=bW (o9 hI).2 (oU hI.c);have hHP:(held d).length=(mQ d.H).length+d.P.flatten.length:=by unfold held;rw[aW]
 have HH:=ah h;have nH4:=hI.hl;have pP:d.P.length≤65536:=by have:=(o9 hI).1;have:=oU hI.c;omega
 obtain⟨qp,kp,evp,kp1,kp2,_⟩:=h.pile;subst evp;have c1:=h.b.d.gC 1;have c2:=h.b.d.gC 2;have cl:=h.b.d.lt;obtain⟨H,hH⟩:=eY d.H;obtain⟨P,hP⟩:=eY d.P;obtain⟨nH,hnH⟩: ∃n,n=d.H.length:=⟨_,rfl⟩;obtain⟨nP,hnP⟩: ∃n,n=d.P.length:=⟨_,rfl⟩;have EH:=ah hH;have EP:=ah hP;have ENH:=ah hnH;have ENP:=ah hnP;have HLD:Hid (held d=mQ H++P.flatten):=by show _=_;rw[hH,hP];rfl
 rw[←hH,←hP] at hHP;rw[←hnH] at c1 nH4;rw[←hnP] at c2 pP kp1;unfold maxLen at kp2;clear h hI hH hP hnH hnP;go_in
 go_wp2_with fail;go_loopw [3,4] (fun lv iv wr=>∃(i N:Nat) (q:Option Addr) (k:Nat),i≤nH∧iv= .int .i64 i∧lv= .slice q N k∧N≤65536∧Hid (N=(mQ (H.take i)).length)∧Hid (wr.ownsRow w.heap.size 40 2 (.slice q N k) N (l8 (mQ (H.take i))))∧Below w.heap.size w wr) (fun _ iv _=>nH-(intOf iv).toNat);case atStart=>exact⟨0,0,none,0,bq _,by go_num,rfl,bq _,rfl,aT _ _ _ _,aL _ _⟩
 case round=>
  obtain⟨i,N,q,k,hi,rfl,rfl,hN,HNN,HO,hb⟩:=hrel;have zr:=hb.size;by_cases hlt:i<nH
  ·obtain⟨g,hg⟩: ∃g,d.H[i]?=some g:=⟨d.H[i]'(by rw[←ENH.out];exact hlt),aA _⟩
   obtain⟨⟨pa,pb⟩,hp,r1,r2,g0,g1,_,_,gl⟩:=(HH.out.below hb).hand hg;obtain⟨qa,ca,e1,_⟩:=r1.isSlice;obtain⟨qb,cb,e2,_⟩:=r2.isSlice;simp only at e1 e2 g0 g1;subst e1 e2;have hsn:mQ (H.take (i+1))=mQ (H.take i)++g.1++g.2:=Tt (by rw[EH.out];exact hg);have hlen:N+g.1.length+g.2.length≤65536:=by
    have h1:=xQ H (i+1);rw[hsn] at h1;simp only[aW] at h1;have:=HNN.out;omega
   have R1:=ah (mD.srcO r1).2;have R2:=ah r2;have HSN:=ah hsn;have c1r:=(hb.cell (p:=⟨pd,1,none⟩) cl).trans c1;have clr:pd<wr.heap.size:=om;have i0:(0:Int)≤(i:Int):=om;have i1:(i:Int)<(nH:Int):=om;have KEEP:Hid (∀w2,Below w.heap.size wr w2→w2.cell? ⟨pd,1,none⟩=some (.slice (some ⟨gh,0,none⟩) nH nH)∧pd<w2.heap.size∧w2.cell? ⟨gh,i*2+1,none⟩=some (.slice qb g.2.length cb)∧gh<w2.heap.size∧uP w2 qb (l8 g.2)):=fun w2 b2=>by
    obtain⟨⟨pa',pb'⟩,hp',_,r2',_,g1',_,_,gl'⟩:=(HH.out.below (hb.trans b2)).hand hg;rw[hp] at hp';obtain⟨rfl,rfl⟩:=Prod.mk.inj (aO hp');exact⟨(b2.cell (p:=⟨pd,1,none⟩) cl).trans c1r,aC clr b2.size,g1',gl',(mD.srcO r2').2⟩
   obtain⟨na,hna⟩: ∃n,n=g.1.length:=⟨_,rfl⟩;obtain⟨nb,hnb⟩: ∃n,n=g.2.length:=⟨_,rfl⟩;have LA:Hid ((l8 g.1).length=na*2):=by show _=_;rw[lU,hna];omega
   have LB:Hid ((l8 g.2).length=nb*2):=by show _=_;rw[lU,hnb];omega
   have NEW:Hid ((mQ (H.take (i+1))).length=N+na+nb):=by show _=_;rw[hsn,hna,hnb,HNN.out];simp only[aW]
   have OA:Hid (∀u∈l8 g.1,u.oneCell'=true):=qP _;have OB:Hid (∀u∈l8 g.2,u.oneCell'=true):=qP _;rw[←hna] at g0 hlen;rw[←hnb] at g1 hlen KEEP;have HBR:=ah hb;clear r1 r2 hsn hp hg hna hnb hb;go_wp2_with (first
    |(at_builtin;refine kP uh (base:=w.heap.size) (v:=.slice q N k) (n:=N) (m:=na) (xs:=l8 (mQ (H.take i))) (ms:=l8 g.1) (p:=qa) rf (.tmp 15) (.tmp 23) rf rf rf HO.out LA.out R1.out OA.out om zr ?_;intro q3 k3 w2 hown3 hg3 AB;have b3:Below w.heap.size wr w2:=(aL _ _).grown hg3 zr (fun r hr=>(HO.out.lt r hr).1);obtain⟨x1,xl,x2,x3,x4⟩:=KEEP.out w2 b3;have S4:=ah x4;have HO3:=ah hown3;have HB3:=ah b3;have z3:=bW zr b3.size;clear hown3 hg3 AB b3 x4)
    |(at_builtin;go_loud (refine kP uh (base:=w.heap.size) (v:=.slice q3 (N+na) k3) (n:=N+na) (m:=nb) (xs:=l8 (mQ (H.take i))++l8 g.1) (ms:=l8 g.2) (p:=qb) rf (.tmp 25) (.tmp 33) rf rf rf HO3.out LB.out S4.out OB.out om z3 ?_);intro q4 k4 w3 kV hg4 Jf;have b4:=(HBR.out.trans HB3.out).grown hg4 z3 (fun r hr=>(HO3.out.lt r hr).1);have HO4:=ah kV;have HB4:=ah b4;clear kV hg4 Jf b4))
   go_roundw;case rel=>exact⟨i+1,N+na+nb,q4,k4,om,by go_num,rfl,om,NEW.out.symm,by rw[HSN.out,qD,qD];exact HO4.out,HB4.out⟩
   case measure=>simp[intOf];omega
  ·obtain rfl:i=nH:=by omega
   have HALL:mQ (H.take i)=mQ H:=by rw[dG (by rw[EH.out,←ENH.out];exact aI _)]
   have O0:Hid (wr.ownsRow w.heap.size 40 2 (.slice q N k) N (l8 (mQ H++(P.take 0).flatten))):=by
    show wr.ownsRow _ _ _ _ _ _;rw[aV,List.flatten_nil,dw,←HALL];exact HO.out
   have N0:Hid (N=(mQ H++(P.take 0).flatten).length):=by show _=_;rw[aV,List.flatten_nil,dw,←HALL];exact HNN.out
   have c1r:=(hb.cell (p:=⟨pd,1,none⟩) cl).trans c1;have clr:pd<wr.heap.size:=om;clear HALL HO HNN;go_wp2_with fail;go_loopw [3,5] (fun lv iv wr=>∃(i N:Nat) (q:Option Addr) (k:Nat),i≤nP∧iv= .int .i64 i∧lv= .slice q N k∧N≤65536∧Hid (N=(mQ H++(P.take i).flatten).length)∧Hid (wr.ownsRow w.heap.size 40 2 (.slice q N k) N (l8 (mQ H++(P.take i).flatten)))∧Below w.heap.size w wr) (fun _ iv _=>nP-(intOf iv).toNat);case atStart=>exact⟨0,N,q,k,bq _,by go_num,rfl,hN,N0,O0,hb⟩
   case round=>
    clear c1r clr O0 N0 hb zr hN;obtain⟨j,N,q,k,hj,rfl,rfl,hN,HNN,HO,hb⟩:=hrel;have zr:=hb.size;have c2r:=(hb.cell (p:=⟨pd,2,none⟩) cl).trans c2;have clr:pd<_:=aC cl zr;by_cases hlt:j<nP
    ·obtain⟨m,hm⟩: ∃m,d.P[j]?=some m:=⟨d.P[j]'(by rw[←ENP.out];exact hlt),aA _⟩
     obtain⟨qp',kp',evp',_,_,Wo⟩:=(HH.out.below hb).pile;rw[←ENP.out] at evp';obtain⟨rfl,_,rfl⟩:=fu evp';obtain⟨u,g,of,hu,eg,_,gl,gc,ru⟩:=Wo j m hm;subst eg;obtain⟨qa,ca,e1,_⟩:=ru.isSlice;subst e1;have hsn:(P.take (j+1)).flatten=(P.take j).flatten++m:=Wp (by rw[EP.out];exact hm);have hlen:N+m.length≤65536:=by
      have h1:=FZ P (j+1);rw[hsn] at h1;simp only[aW] at h1;have:=HNN.out;rw[aW] at this;omega
     have R1:=ah (mD.srcO ru).2;have HSN:=ah hsn;have i0:(0:Int)≤(j:Int):=om;have i1:(j:Int)<(nP:Int):=om;obtain⟨na,hna⟩: ∃n,n=m.length:=⟨_,rfl⟩;have LA:Hid ((l8 m).length=na*2):=by show _=_;rw[lU,hna];omega
     have NEW:Hid ((mQ H++(P.take (j+1)).flatten).length=N+na):=by show _=_;rw[hsn,hna,HNN.out];simp only[aW];omega
     have OA:Hid (∀u∈l8 m,u.oneCell'=true):=qP _;rw[←hna] at gc hlen;have HBR:=ah hb;clear ru hsn hm hna hb hu Wo evp';go_wp2_with (at_builtin;refine kP uh (base:=w.heap.size) (v:=.slice q N k) (n:=N) (m:=na) (xs:=l8 (mQ H++(P.take j).flatten)) (ms:=l8 m) (p:=qa) rf (.tmp 44) (.tmp 51) rf rf rf HO.out LA.out R1.out OA.out om zr ?_;intro q3 k3 w2 hown3 hg3 AB;have b3:=HBR.out.grown hg3 zr (fun r hr=>(HO.out.lt r hr).1);have HO3:=ah hown3;have HB3:=ah b3;clear hown3 hg3 AB b3);go_roundw;case rel=>exact⟨j+1,N+na,q3,k3,om,by go_num,rfl,om,NEW.out.symm,by rw[HSN.out,←bT,qD];exact HO3.out,HB3.out⟩
     case measure=>simp[intOf];omega
    ·obtain rfl:j=nP:=by omega
     have HALL:P.take j=P:=dG (by rw[EP.out,←ENP.out];exact aI _);have HO':=HO.out;have HN':=HNN.out;rw[HALL,←HLD.out] at HO' HN';have HO2:=ah HO';have HN2:=ah HN';have HB:=ah hb;clear HO HNN HO' HN' HALL hb;go_wp2;go_ret;exact⟨_,rfl,by rw[←HN2.out];exact HO2.out,HB.out⟩
theorem AJ (o:Ob) (h:RD X w pd gh pc pm gN e mn lw hi O M v A V vp U d) (hI:pU e d):
 Calls prog 95 #[.pointer (some ⟨pd,0,none⟩),.agg #[.int .i64 o.1,.int .i64 o.2]] w fun r w'=>r= .returned (.bool (Ay e d o))∧Below w.heap.size w w':=by
 obtain⟨wa,hwa⟩:=eY (w.alloc (.cells #[.int .i64 o.1,.int .i64 o.2] 40));have ba:Below w.heap.size w wa:=by rw[hwa];exact jY
 have LA:=ah (show jR wa w.heap.size [.int .i64 o.1,.int .i64 o.2] from by rw[hwa];exact jR.mk_ w [.int .i64 o.1,.int .i64 o.2] 40 rfl);have TK:=ah (rlie_ok (h.below ba) hI);have IT:Hid (∀W,Below w.heap.size w W→Calls prog 128 #[.pointer (some ⟨pc,0,none⟩),.agg #[.int .i64 o.1,.int .i64 o.2]] W fun r w'=>r= .returned (.bool (decide (o∈qj e d.c.C)))∧Below W.heap.size W w'):=fun W hW=>Tq o (h.c.below hW) hI.c
 have few:(held d).length≤65536:=bW (o9 hI).2 (oU hI.c);have c0:=h.b.d.gC 0;have cl:=h.b.d.lt;obtain⟨l,hl⟩:=eY (held d);obtain⟨tb,htb⟩:=eY (decide (o∈qj e d.c.C));obtain⟨ob,hob⟩:=eY (Ay e d o);have EO:Hid (ob=(tb&& !decide (o∈l))):=by show _=_;rw[hob,htb,hl];rfl
 rw[←hob];rw[←hl] at few TK;rw[←htb] at IT;have BA:=ah ba;clear h hI hl htb ba hob;go_in
 go_wp2_with fail;rw[←hwa];refine TK.out.mono ?_;rintro r w1 ⟨v1,rfl,hown,hb1⟩;obtain⟨q,k,rfl⟩: ∃q k,v1= .slice q l.length k:=by
  rcases hown.2 with⟨e1,e2⟩|⟨g,cap,cur,e1,_⟩
  ·exact⟨none,0,by rw[e1,e2]⟩
  ·exact⟨_,cap,e1⟩
 have HO:=ah hown;have B1:=ah (BA.out.trans (hb1.mono BA.out.size));have L1:=ah (LA.out.go hb1);have z1:=B1.out.size;clear hown hb1 TK LA BA hwa;go_wp2_with fail;go_loopw [6] (fun iv wr=>∃i:Nat,i≤l.length∧iv= .int .i64 i∧Below w1.heap.size w1 wr∧Hid (∀(j:Nat) (x:Ob),j<i→l[j]?=some x→x≠o)) (fun iv _=>l.length-(intOf iv).toNat);case atStart=>exact⟨0,bq _,by go_num,aL _ _,fun j x hj=>om⟩
 case round=>
  obtain⟨i,hi,rfl,hb,HNO⟩:=hrel;have zr:=hb.size;have M6:=L1.out.go hb;have x0:=M6.gC 0;have x1:=M6.gC 1;have xl:=M6.lt;by_cases hlt:i<l.length
  ·obtain⟨x,hx⟩: ∃x,l[i]?=some x:=⟨l[i],aA hlt⟩
   have own':=jQ HO.out (Keep.of (S:=[]) hb) (fun s hs=>by cases hs);obtain⟨g,eg,k1,k2,gl,y0,y1⟩:=JU own' hx;subst eg;unfold maxLen at k2;have hli:(i:Int)<(l.length:Int):=om;have hl0:(0:Int)≤(i:Int):=om;have eb:=eqO;have gb:=wQ;have HB:=ah hb;have HXX:=ah hx;clear own' hx k1 M6 hb c0;cases hq:(x.1==o.1&&x.2==o.2) with
   |true=>
    have hxo:x=o:=by simp at hq;exact Prod.ext hq.1 hq.2
    have hbt:ob=false:=by rw[EO.out,dQt (show o∈l from by rw[←hxo];exact aF HXX.out)];simp
    subst hbt;clear hxo;go_wp2_with fail;go_quiet (fail);go_wp2;go_ret;exact⟨rfl,B1.out.trans (iO (HB.out.trans jY) z1)⟩
   |false=>
    have hxo:Hid (x≠o):=fun q=>by subst q;simp at hq
    go_wp2_with fail;go_quiet (fail);go_wp2;go_round
    case rel=>exact⟨i+1,om,by go_num,HB.out.trans jY,fun j y hj hy=>by
     rcases dP.1 hj with q|q
     ·exact HNO.out j y q hy
     ·subst q;rw[HXX.out] at hy;obtain rfl:=aO hy;exact hxo.out⟩
    case measure=>simp[intOf];omega
  ·have hbt:ob=tb:=by
    rw[EO.out,dQf (fun q=> ?_)]
    ·simp
    ·obtain⟨j,hj⟩:=dA q
     have:=(au.1 hj).1;exact HNO.out j o om hj rfl
   subst hbt;have HB:=ah (B1.out.trans (iO hb z1));have ITW:=ah (fun W (hW:Below wr.heap.size wr W)=>IT.out W (HB.out.trans (hW.mono HB.out.size)));have c0r:=(HB.out.cell (p:=⟨pd,0,none⟩) cl).trans c0;have clr:pd<wr.heap.size:=om;clear hb M6 IT c0;go_wp2_with fail;refine kG kR kR ?_;repeat(go_big_quiet_step (((go_at_call 128;exact Calls.behind (ITW.out _ (Behind.h _))))))
   refine wpQuiet_nil ?_;intro w5 hw';have hb5:=lN hw';clear hw';have z5:=hb5.size;try simp at z5
   go_wp2;go_ret;exact⟨rfl,HB.out.trans (iO hb5 HB.out.size)⟩
end
section
variable {X X' Y S M M' F G:List Nat} {w w' w0 wp W2 W:World} {ev:Nat→Addr} {pd gh pc pm gN e:Nat} {mn lw hi:Int} {O:List (List Int)} {v v' vp vp':Value} {A A':SA} {V V':HV} {U U':List Value} {d d' dp:De} {c c':Ca}
theorem RD.fin {k hb:Nat} {u pb:Value} {l' lo:List Ob} {r:Value} (h0:RD X' wp pd gh pc pm gN e mn lw hi O M v A V vp' U' dp) (hk:k<dp.H.length) (k1:Keep [pd] w wp) (k2:Keep [hb] wp W2) (hb1:hb∈X') (hb2:hb∉rds pd gh pc pm gN A M) (hb3:w.heap.size≤hb)
 (x1: ∀x∈X,x∈X') (x2: ∀x∈X',x∈X∨w.heap.size≤x) (x3: ∀x∈X',x<wp.heap.size) (ru:mD X' W2 u l') (ro:mD X' wp pb lo) (hW:W=(W2.setCell ⟨gh,k*2,none⟩ u).setCell ⟨gh,k*2+1,none⟩ pb):
 mO X pd gh pc pm gN e mn lw hi O M A w ⟨dp.c,dp.H.set k (l',lo),dp.P⟩ r (.returned r) W:=by
 have hvl:k<V.length:=by rw[h0.b.hl];exact hk
 have h2:=h0.keep k2 (fun s q=>by simp at q;subst q;exact .inl ⟨hb1,hb2⟩);have ro2:=ro.keep k2 (fun s q=>by simp at q;subst q;exact .inl hb1);have kk:Keep [gh] W2 W:=by rw[hW];exact((Keep.refl _ _).setCell (p:=⟨gh,k*2,none⟩) (.inl sI) _).setCell (p:=⟨gh,k*2+1,none⟩) (.inl sI) _
 have lo':=Qp h2.b.hs hvl u pb;rw[←hW] at lo';have hcd:=h2.yu k (p':=(u,pb)) (h':=(l',lo)) hk ru ro2 kk lo';have K:Keep [pd,gh] w W:=((k1.mono (S':=[pd,gh]) (fun s q=>by simp at q;subst q;simp)).trans k2 (fun s q=>by simp at q;subst q;exact .inr hb3)).trans kk (fun s q=>by simp at q;subst q;exact .inl sI);refine⟨rfl,X',M,v,A,_,vp',U',hcd,K.mono (fun s q=> ?_),x1,x2,fun x q=>aC (x3 x q) (bW k2.size kk.size),fun y q=>.inl q⟩;simp at q;rcases q with rfl|rfl
 ·exact aG ..
 ·exact ak _ (aG ..)
theorem Tv (k:Int) (o:Ob) (h:RD X w pd gh pc pm gN e mn lw hi O M v A V vp U d) (hX: ∀x∈X,x<w.heap.size) (hk:p8 d k=none):
 Calls prog 51 #[.pointer (some ⟨pd,0,none⟩),.int .i64 k,.agg #[.int .i64 o.1,.int .i64 o.2]] w (mO X pd gh pc pm gN e mn lw hi O M A w (lI e d k o).1 (.int .i64 (lI e d k o).2)):=by
 have ed:lI e d k o=(d,2):=by unfold lI;rw[hk]
 rw[ed];have b1:Below w.heap.size w (w.alloc (.cells #[.int .i64 o.1,.int .i64 o.2] 40)):=jY;have IW0:=(h.below b1).worker k;rw[dQf (show¬(0≤k∧k<d.H.length) from fun q=>by have:=xD hk;omega)] at IW0;have IW:=ah IW0;have FIN:Hid (∀W,Below w.heap.size w W→mO X pd gh pc pm gN e mn lw hi O M A w d (.int .i64 2) (.returned (.int .i64 2)) W):=fun W b=>mO.here hX (h.below b) (Keep.of (S:=[]) b) (fun s q=>by cases q)
 clear h hk b1 IW0;go_in
 go_wp2_with fail;refine IW.out.mono ?_;rintro r w1 ⟨rfl,rfl⟩;clear IW;go_wp2;go_ret;exact FIN.out _ jY
theorem Ii (k:Nat) (o:Ob) (h:RD X w pd gh pc pm gN e mn lw hi O M v A V vp U d) (hI:pU e d) (hX: ∀x∈X,x<w.heap.size) (hk:k<d.H.length) (ho:Ay e d o=false):
 Calls prog 51 #[.pointer (some ⟨pd,0,none⟩),.int .i64 k,.agg #[.int .i64 o.1,.int .i64 o.2]] w (mO X pd gh pc pm gN e mn lw hi O M A w (lI e d k o).1 (.int .i64 (lI e d k o).2)):=by
 have ed:lI e d k o=(d,9):=by unfold lI;rw[oZ (aA hk)];simp only[ho];rfl
 rw[ed];obtain⟨wa,hwa⟩:=eY (w.alloc (.cells #[.int .i64 o.1,.int .i64 o.2] 40));have b1:Below w.heap.size w wa:=by rw[hwa];exact jY
 have LO:=ah (show jR wa w.heap.size [.int .i64 o.1,.int .i64 o.2] from by rw[hwa];exact jR.mk_ w [.int .i64 o.1,.int .i64 o.2] 40 rfl);have IW0:=(h.below b1).worker k;rw[dQt (show 0≤(k:Int)∧(k:Int)<d.H.length from om)] at IW0;have IW:=ah IW0;have IO0:=AJ o (h.below b1) hI;rw[ho] at IO0;have IO:=ah IO0;have B1:=ah b1;have FIN:Hid (∀W,Below w.heap.size w W→mO X pd gh pc pm gN e mn lw hi O M A w d (.int .i64 9) (.returned (.int .i64 9)) W):=fun W b=>mO.here hX (h.below b) (Keep.of (S:=[]) b) (fun s q=>by cases q)
 have v0:=LO.out.gC 0;have v1:=LO.out.gC 1;have vl:=LO.out.lt;clear h hI hk b1 IW0 IO0 ho;go_in
 go_wp2_with fail;rw[←hwa];clear hwa;refine IW.out.mono ?_;rintro r w1 ⟨rfl,rfl⟩;clear IW;go_wp2_with fail;refine IO.out.mono ?_;rintro r w2 ⟨rfl,hb2⟩;have B2:=ah (B1.out.trans (hb2.mono B1.out.size));clear IO hb2 v0 v1;go_wp2;go_ret;exact FIN.out _ B2.out
theorem rdgive_1 (k:Nat) (o:Ob) (h:RD X w pd gh pc pm gN e mn lw hi O M v A V vp U d) (hI:pU e d) (hX: ∀x∈X,x<w.heap.size) {l1 l2:List Ob} (hk:d.H[k]?=some (l1,l2)) (h4:l1.length≠4) (ho:Ay e d o=true):
 Calls prog 51 #[.pointer (some ⟨pd,0,none⟩),.int .i64 k,.agg #[.int .i64 o.1,.int .i64 o.2]] w (mO X pd gh pc pm gN e mn lw hi O M A w (lI e d k o).1 (.int .i64 (lI e d k o).2)):=by
 have hkl:=(au.1 hk).1;have ef:qE (l1,l2) d.P=((l1,l2),d.P):=by unfold qE;rw[if_neg h4]
 have eg:lI e d k o=(⟨d.c,d.H.set k (l1++[o],l2),d.P⟩,0):=by unfold lI;rw[oZ hk];simp only[ho,if_true,ef];rfl
 rw[eg];obtain⟨wa,hwa⟩:=eY (w.alloc (.cells #[.int .i64 o.1,.int .i64 o.2] 40));have b1:Below w.heap.size w wa:=by rw[hwa];exact jY
 have LO:=ah (show jR wa w.heap.size [.int .i64 o.1,.int .i64 o.2] from by rw[hwa];exact jR.mk_ w [.int .i64 o.1,.int .i64 o.2] 40 rfl);have IW0:=(h.below b1).worker k;rw[dQt (show 0≤(k:Int)∧(k:Int)<d.H.length from om)] at IW0;have IW:=ah IW0;have IO0:=AJ o (h.below b1) hI;rw[ho] at IO0;have IO:=ah IO0;have B1:=ah b1;have hH4:=hI.hl;have l4:=hI.h4 _ (aF hk);simp only at l4;have pl:d.P.length≤65536:=by have:=(o9 hI).1;have:=oU hI.c;omega
 have v0:=LO.out.gC 0;have v1:=LO.out.gC 1;have vl:=LO.out.lt;have HH:=ah h;have HK:=ah hk;have HX:=ah hX;have HKL:=ah hkl;obtain⟨nH,hnH⟩: ∃n,n=d.H.length:=⟨_,rfl⟩;have ENH:=ah hnH;rw[←hnH] at hkl hH4;clear h hI hk b1 IW0 IO0 ho ef eg hnH hX;go_in
 go_wp2_with fail;rw[←hwa];clear hwa;refine IW.out.mono ?_;rintro r w1 ⟨rfl,rfl⟩;clear IW;go_wp2_with fail;refine IO.out.mono ?_;rintro r w2 ⟨rfl,hb2⟩;have B2:=ah (B1.out.trans (hb2.mono B1.out.size));have z2:=B2.out.size;have LO2:=ah (LO.out.go hb2);obtain⟨p,hp,o1,o2,g0,g1,f0,f1,gl⟩:=(HH.out.below B2.out).hand HK.out;obtain⟨⟨pa,pb⟩,rfl⟩: ∃q,q=p:=⟨_,rfl⟩;obtain⟨qa,ca,e1,ka1,ka2⟩:=o1.isSlice;obtain⟨qb,cb,e2,kb1,kb2⟩:=o2.isSlice;simp only at e1 e2 g0 g1 hp o1 o2 ka1 kb1;subst e1 e2;have c1:=(HH.out.below B2.out).b.d.gC 1;have cl:=(HH.out.below B2.out).b.d.lt;rw[←ENH.out] at c1;have hvl:k<V.length:=by rw[HH.out.b.hl];exact HKL.out
 have glw:gh<w.heap.size:=HH.out.b.hs.lt;have plw:pd<w.heap.size:=HH.out.b.d.lt;obtain⟨hbx,hhbx⟩:=eY w2.heap.size;have n1: ¬(gh=w2.heap.size):=om;have n2: ¬(w2.heap.size=gh):=om;have n3: ¬(pd=w2.heap.size):=om;have n4: ¬(w2.heap.size=pd):=om;have n5: ¬(w.heap.size=w2.heap.size):=by have:=LO2.out.lt;omega
 have NRD:Hid (w2.heap.size∉rds pd gh pc pm gN A M):=fun q=>by have:=(HH.out.below B2.out).lt _ q;omega
 have i0:(0:Int)≤(k:Int):=om;have i1:(k:Int)<(nH:Int):=om;have hp0:Hid (V[k]?=some (.slice qa l1.length ca,.slice qb l2.length cb)):=hp;have HO1:=ah o1;have HO2:=ah o2;obtain⟨m1,hm1⟩: ∃m,m=l1.length:=⟨_,rfl⟩;obtain⟨m2,hm2⟩: ∃m,m=l2.length:=⟨_,rfl⟩;rw[←hm1] at g0 h4 l4 ka1;rw[←hm2] at g1 l4;have HO1:Hid (mD X w2 (.slice qa m1 ca) l1):=by have t:=HO1.out;rw[←hm1] at t;exact t
 have HO2:Hid (mD X w2 (.slice qb m2 cb) l2):=by have t:=HO2.out;rw[←hm2] at t;exact t
 obtain⟨WA,hWA⟩:=eY (w2.alloc (.cells #[.slice qa m1 ca,.slice qb m2 cb] 153));have bA:Below w2.heap.size w2 WA:=by rw[hWA];exact jY
 have zA:WA.heap.size=w2.heap.size+1:=by rw[hWA];simp
 have LH:=ah (show jR WA w2.heap.size [.slice qa m1 ca,.slice qb m2 cb] from by rw[hWA];exact jR.mk_ w2 [.slice qa m1 ca,.slice qb m2 cb] 153 rfl);have LOA:=ah (LO2.out.go bA);have BA:=ah (B2.out.trans (bA.mono z2));have yR: ∀y∈w2.heap.size::X,y∈X∨w.heap.size≤y:=fun y hy=>by
  rcases aB.1 hy with rfl|q
  ·exact .inr z2
  ·exact .inl q
 have RA:=ah ((HH.out.more (Y:=w2.heap.size::X) (fun x q=>ak _ q) yR).below BA.out);have Cc: ∀y∈w2.heap.size::X,y∈X∨w2.heap.size≤y:=fun y hy=>by
  rcases aB.1 hy with rfl|q
  ·exact .inr (aI _)
  ·exact .inl q
 have RO1:=ah ((HO1.out.more Cc).below bA);have RO2:=ah ((HO2.out.more Cc).below bA);have X1:Hid (∀x∈X,x∈w2.heap.size::X):=fun x q=>ak _ q
 have X2:Hid (∀x∈w2.heap.size::X,x∈X∨w.heap.size≤x):=yR;have X3:Hid (∀x∈w2.heap.size::X,x<WA.heap.size):=fun x q=>by
  rcases aB.1 q with rfl|q
  ·omega
  ·have:=HX.out x q;omega
 have LE0:Hid ((l8 l1).length=m1*2):=by show _=_;simp[lU];try omega
 have OE:Hid (∀u∈l8 l1,u.oneCell'=true):=qP _;have FIN:Hid (∀w5 q4 k4 W,Below WA.heap.size WA w5→w5.ownsRow WA.heap.size 40 2 (.slice q4 (m1+1) k4) (m1+1) (l8 l1++[.int .i64 o.1,.int .i64 o.2])→W=(((w5.setCell ⟨w2.heap.size,0,none⟩ (.slice q4 (m1+1) k4)).setCell ⟨gh,k*2,none⟩ (.slice q4 (m1+1) k4)).setCell ⟨gh,k*2+1,none⟩ (.slice qb m2 cb)).drew→mO X pd gh pc pm gN e mn lw hi O M A w ⟨d.c,d.H.set k (l1++[o],l2),d.P⟩ (.int .i64 0) (.returned (.int .i64 0)) W):=fun w5 q4 k4 W b5 own hW=>by
  have k2:Keep [w2.heap.size] WA (w5.setCell ⟨w2.heap.size,0,none⟩ (.slice q4 (m1+1) k4)).drew:=((Keep.of b5).setCell (p:=⟨w2.heap.size,0,none⟩) (.inl sI) _).drew;have ru0:mD (w2.heap.size::X) w5 (.slice q4 (m1+1) k4) (l1++[o]):=by
   have e:m1+1=(l1++[o]).length:=by simp;try omega
   rw[←lY,e] at own;rw[e];exact qX own (fun g hg q=>by have:=(own.lt g hg).1;have:=X3.out g q;omega)
  have ru:=ru0.keep (((Keep.refl [w2.heap.size] w5).setCell (p:=⟨w2.heap.size,0,none⟩) (.inl sI) (.slice q4 (m1+1) k4)).drew) (fun s q=>by simp at q;subst q;exact .inl (aG ..));exact RD.fin RA.out HKL.out (Keep.of BA.out) k2 (aG ..) NRD.out z2 X1.out X2.out X3.out ru RO2.out (hW.trans (by first|rfl|simp only[go_sem]|simp[go_sem]))
 have KP:Hid (∀w5,Below WA.heap.size WA w5→(w5.cell? ⟨w2.heap.size,0,none⟩=some (.slice qa m1 ca)∧w5.cell? ⟨w2.heap.size,1,none⟩=some (.slice qb m2 cb)∧w5.frozen? ⟨w2.heap.size,0,none⟩=false∧w2.heap.size<w5.heap.size)∧(w5.cell? ⟨w.heap.size,0,none⟩=some (.int .i64 o.1)∧w5.cell? ⟨w.heap.size,1,none⟩=some (.int .i64 o.2)∧w.heap.size<w5.heap.size)∧w5.cell? ⟨pd,1,none⟩=some (.slice (some ⟨gh,0,none⟩) nH nH)∧pd<w5.heap.size∧w5.frozen? ⟨gh,k*2,none⟩=false∧w5.frozen? ⟨gh,k*2+1,none⟩=false∧gh<w5.heap.size∧(∃u0,w5.cell? ⟨gh,k*2,none⟩=some u0)∧∃u1,w5.cell? ⟨gh,k*2+1,none⟩=some u1):=fun w5 b=>by
  have a:=LH.out.go b;have y:=LOA.out.go b;have R5:=RA.out.below b;obtain⟨p5,_,_,_,g0,g1,f0,f1,gl5⟩:=R5.hand HK.out;exact⟨⟨a.gC 0,a.gC 1,a.f 0 sI,a.lt⟩,⟨y.gC 0,y.gC 1,y.lt⟩,by rw[ENH.out];exact R5.b.d.gC 1,R5.b.d.lt,f0,f1,gl5,⟨_,g0⟩,⟨_,g1⟩⟩
 have cf2:=(LOA.out.gC 0);have ZW:Hid (w2.heap.size<WA.heap.size):=by show _<_;omega
 have S0:=ah (mD.srcO RO1.out).2;have d4:decide ((m1:Int)=4)=false:=dQf om;have HWA:=ah hWA;clear hp hWA o1 o2 f0 f1 yR Cc bA cf2 hm1 hm2 HO1 HO2 hp0 hb2 v0 v1 vl;have u0:=LO2.out.gC 0;have u1:=LO2.out.gC 1;have ul:=LO2.out.lt;go_wp2_with (first
  |(at_builtin;rw[←HWA.out];refine kP uh (base:=WA.heap.size) (v:=.slice none 0 0) (n:=0) (m:=m1) (xs:=[]) (ms:=l8 l1) (p:=qa) rf (.tmp 57) (.tmp 59) rf rf rf (aT _ _ _ _) LE0.out S0.out OE.out om (aI _) ?_;intro q3 k3 w4 hown3 hg3 AB;have b3:Below WA.heap.size WA w4:=(aL _ _).grown hg3 (aI _) (fun r hr=>by cases hr);rw[bK] at hown3 AB;rw[dx] at hown3;obtain⟨⟨h0,h1,hf,hl⟩,⟨y0,y1,yl⟩,_⟩:=KP.out w4 b3;have HO3:=ah hown3;have HB3:=ah b3;clear hown3 hg3 AB b3)
  |(at_builtin;go_loud (refine sH uh (base:=WA.heap.size) (v:=.slice q3 m1 k3) (n:=m1) (ms:=[.int .i64 o.1,.int .i64 o.2]) (ad:=⟨w4.heap.size,0,none⟩) rf (.tmp 61) (.tmp 63) rf rf rf (HO3.out.alloc _) rfl (oK w4 (.int .i64 o.1) (.int .i64 o.2) 40) (oL _ _) om (by have:=HB3.out.size;simp;omega) ?_);intro q4 k4 w5 kV hg4 Jf;have b5:Below WA.heap.size WA w5:=((HB3.out.alloc HB3.out.size (.cells #[.int .i64 o.1,.int .i64 o.2] 40))).grown hg4 (by have:=HB3.out.size;simp;omega) (fun r hr=>(HO3.out.lt r hr).1);obtain⟨⟨h0',h1',hf',hl'⟩,_,p1,pl1,fg0,fg1,gl5,⟨u0',cg0⟩,⟨u1',cg1⟩⟩:=KP.out w5 b5;have FF:=ah (FIN.out w5 q4 k4);have HO4:=ah kV;have HB5:=ah b5;clear kV hg4 Jf b5))
 refine lJ 7 kR kR ?_;simp only[aQ,aV,aP,aU];repeat still_step
 refine wpStill_nil ?_;go_wp2;go_ret;exact FF.out _ HB5.out HO4.out rfl
theorem rdgive_2 (k:Nat) (o:Ob) (h:RD X w pd gh pc pm gN e mn lw hi O M v A V vp U d) (hI:pU e d) (hX: ∀x∈X,x<w.heap.size) {l1 l2:List Ob} (hk:d.H[k]?=some (l1,[])) (h4:l1.length=4) (ho:Ay e d o=true):
 Calls prog 51 #[.pointer (some ⟨pd,0,none⟩),.int .i64 k,.agg #[.int .i64 o.1,.int .i64 o.2]] w (mO X pd gh pc pm gN e mn lw hi O M A w (lI e d k o).1 (.int .i64 (lI e d k o).2)):=by
 have hkl:=(au.1 hk).1;have ef:qE (l1,[]) d.P=(([],l1),d.P):=by unfold qE;rw[if_pos h4,if_pos rfl]
 have eg:lI e d k o=(⟨d.c,d.H.set k ([]++[o],l1),d.P⟩,0):=by unfold lI;rw[oZ hk];simp only[ho,if_true,ef];rfl
 rw[eg];obtain⟨wa,hwa⟩:=eY (w.alloc (.cells #[.int .i64 o.1,.int .i64 o.2] 40));have b1:Below w.heap.size w wa:=by rw[hwa];exact jY
 have LO:=ah (show jR wa w.heap.size [.int .i64 o.1,.int .i64 o.2] from by rw[hwa];exact jR.mk_ w [.int .i64 o.1,.int .i64 o.2] 40 rfl);have IW0:=(h.below b1).worker k;rw[dQt (show 0≤(k:Int)∧(k:Int)<d.H.length from om)] at IW0;have IW:=ah IW0;have IO0:=AJ o (h.below b1) hI;rw[ho] at IO0;have IO:=ah IO0;have B1:=ah b1;have hH4:=hI.hl;have l4:=hI.h4 _ (aF hk);simp only at l4;have pl:d.P.length≤65536:=by have:=(o9 hI).1;have:=oU hI.c;omega
 have v0:=LO.out.gC 0;have v1:=LO.out.gC 1;have vl:=LO.out.lt;have HH:=ah h;have HK:=ah hk;have HX:=ah hX;have HKL:=ah hkl;obtain⟨nH,hnH⟩: ∃n,n=d.H.length:=⟨_,rfl⟩;have ENH:=ah hnH;rw[←hnH] at hkl hH4;clear h hI hk b1 IW0 IO0 ho ef eg hnH hX;go_in
 go_wp2_with fail;rw[←hwa];clear hwa;refine IW.out.mono ?_;rintro r w1 ⟨rfl,rfl⟩;clear IW;go_wp2_with fail;refine IO.out.mono ?_;rintro r w2 ⟨rfl,hb2⟩;have B2:=ah (B1.out.trans (hb2.mono B1.out.size));have z2:=B2.out.size;have LO2:=ah (LO.out.go hb2);obtain⟨p,hp,o1,o2,g0,g1,f0,f1,gl⟩:=(HH.out.below B2.out).hand HK.out;obtain⟨⟨pa,pb⟩,rfl⟩: ∃q,q=p:=⟨_,rfl⟩;obtain⟨qa,ca,e1,ka1,ka2⟩:=o1.isSlice;obtain⟨qb,cb,e2,kb1,kb2⟩:=o2.isSlice;simp only at e1 e2 g0 g1 hp o1 o2 ka1 kb1;subst e1 e2;have c1:=(HH.out.below B2.out).b.d.gC 1;have cl:=(HH.out.below B2.out).b.d.lt;rw[←ENH.out] at c1;have hvl:k<V.length:=by rw[HH.out.b.hl];exact HKL.out
 have glw:gh<w.heap.size:=HH.out.b.hs.lt;have plw:pd<w.heap.size:=HH.out.b.d.lt;obtain⟨hbx,hhbx⟩:=eY w2.heap.size;have n1: ¬(gh=w2.heap.size):=om;have n2: ¬(w2.heap.size=gh):=om;have n3: ¬(pd=w2.heap.size):=om;have n4: ¬(w2.heap.size=pd):=om;have n5: ¬(w.heap.size=w2.heap.size):=by have:=LO2.out.lt;omega
 have NRD:Hid (w2.heap.size∉rds pd gh pc pm gN A M):=fun q=>by have:=(HH.out.below B2.out).lt _ q;omega
 have i0:(0:Int)≤(k:Int):=om;have i1:(k:Int)<(nH:Int):=om;have hp0:Hid (V[k]?=some (.slice qa l1.length ca,.slice qb ([]:List Ob).length cb)):=hp;have HO1:=ah o1;have HO2:=ah o2;have HO1:Hid (mD X w2 (.slice qa 4 ca) l1):=by have t:=HO1.out;rw[h4] at t;exact t
 have HO2:Hid (mD X w2 (.slice qb 0 cb) []):=HO2.out;rw[h4] at g0 ka1;rw[show([]:List Ob).length=0 from rfl] at g1;obtain⟨WA,hWA⟩:=eY (w2.alloc (.cells #[.slice qb 0 cb,.slice qa 4 ca] 153));have bA:Below w2.heap.size w2 WA:=by rw[hWA];exact jY
 have zA:WA.heap.size=w2.heap.size+1:=by rw[hWA];simp
 have LH:=ah (show jR WA w2.heap.size [.slice qb 0 cb,.slice qa 4 ca] from by rw[hWA];exact jR.mk_ w2 [.slice qb 0 cb,.slice qa 4 ca] 153 rfl);have LOA:=ah (LO2.out.go bA);have BA:=ah (B2.out.trans (bA.mono z2));have yR: ∀y∈w2.heap.size::X,y∈X∨w.heap.size≤y:=fun y hy=>by
  rcases aB.1 hy with rfl|q
  ·exact .inr z2
  ·exact .inl q
 have RA:=ah ((HH.out.more (Y:=w2.heap.size::X) (fun x q=>ak _ q) yR).below BA.out);have Cc: ∀y∈w2.heap.size::X,y∈X∨w2.heap.size≤y:=fun y hy=>by
  rcases aB.1 hy with rfl|q
  ·exact .inr (aI _)
  ·exact .inl q
 have RO1:=ah ((HO1.out.more Cc).below bA);have RO2:=ah ((HO2.out.more Cc).below bA);have X1:Hid (∀x∈X,x∈w2.heap.size::X):=fun x q=>ak _ q
 have X2:Hid (∀x∈w2.heap.size::X,x∈X∨w.heap.size≤x):=yR;have X3:Hid (∀x∈w2.heap.size::X,x<WA.heap.size):=fun x q=>by
  rcases aB.1 q with rfl|q
  ·omega
  ·have:=HX.out x q;omega
 have LE0:Hid ((l8 ([]:List Ob)).length=0*2):=by show _=_;simp[lU];try omega
 have OE:Hid (∀u∈l8 ([]:List Ob),u.oneCell'=true):=qP _;have FIN:Hid (∀w5 q4 k4 W,Below WA.heap.size WA w5→w5.ownsRow WA.heap.size 40 2 (.slice q4 (0+1) k4) (0+1) (l8 ([]:List Ob)++[.int .i64 o.1,.int .i64 o.2])→W=(((w5.setCell ⟨w2.heap.size,0,none⟩ (.slice q4 (0+1) k4)).setCell ⟨gh,k*2,none⟩ (.slice q4 (0+1) k4)).setCell ⟨gh,k*2+1,none⟩ (.slice qa 4 ca)).drew→mO X pd gh pc pm gN e mn lw hi O M A w ⟨d.c,d.H.set k ([]++[o],l1),d.P⟩ (.int .i64 0) (.returned (.int .i64 0)) W):=fun w5 q4 k4 W b5 own hW=>by
  have k2:Keep [w2.heap.size] WA (w5.setCell ⟨w2.heap.size,0,none⟩ (.slice q4 (0+1) k4)).drew:=((Keep.of b5).setCell (p:=⟨w2.heap.size,0,none⟩) (.inl sI) _).drew;have ru0:mD (w2.heap.size::X) w5 (.slice q4 (0+1) k4) (([]:List Ob)++[o]):=by
   have e:0+1=(([]:List Ob)++[o]).length:=by simp;try omega
   rw[←lY,e] at own;rw[e];exact qX own (fun g hg q=>by have:=(own.lt g hg).1;have:=X3.out g q;omega)
  have ru:=ru0.keep (((Keep.refl [w2.heap.size] w5).setCell (p:=⟨w2.heap.size,0,none⟩) (.inl sI) (.slice q4 (0+1) k4)).drew) (fun s q=>by simp at q;subst q;exact .inl (aG ..));exact RD.fin RA.out HKL.out (Keep.of BA.out) k2 (aG ..) NRD.out z2 X1.out X2.out X3.out ru RO1.out (hW.trans (by first|rfl|simp only[go_sem]|simp[go_sem]))
 have KP:Hid (∀w5,Below WA.heap.size WA w5→(w5.cell? ⟨w2.heap.size,0,none⟩=some (.slice qb 0 cb)∧w5.cell? ⟨w2.heap.size,1,none⟩=some (.slice qa 4 ca)∧w5.frozen? ⟨w2.heap.size,0,none⟩=false∧w2.heap.size<w5.heap.size)∧(w5.cell? ⟨w.heap.size,0,none⟩=some (.int .i64 o.1)∧w5.cell? ⟨w.heap.size,1,none⟩=some (.int .i64 o.2)∧w.heap.size<w5.heap.size)∧w5.cell? ⟨pd,1,none⟩=some (.slice (some ⟨gh,0,none⟩) nH nH)∧pd<w5.heap.size∧w5.frozen? ⟨gh,k*2,none⟩=false∧w5.frozen? ⟨gh,k*2+1,none⟩=false∧gh<w5.heap.size∧(∃u0,w5.cell? ⟨gh,k*2,none⟩=some u0)∧∃u1,w5.cell? ⟨gh,k*2+1,none⟩=some u1):=fun w5 b=>by
  have a:=LH.out.go b;have y:=LOA.out.go b;have R5:=RA.out.below b;obtain⟨p5,_,_,_,g0,g1,f0,f1,gl5⟩:=R5.hand HK.out;exact⟨⟨a.gC 0,a.gC 1,a.f 0 sI,a.lt⟩,⟨y.gC 0,y.gC 1,y.lt⟩,by rw[ENH.out];exact R5.b.d.gC 1,R5.b.d.lt,f0,f1,gl5,⟨_,g0⟩,⟨_,g1⟩⟩
 have cf2:=(LOA.out.gC 0);have ZW:Hid (w2.heap.size<WA.heap.size):=by show _<_;omega
 have S0:=ah (mD.srcO RO2.out).2;have HWA:=ah hWA;clear hp hWA o1 o2 f0 f1 yR Cc bA cf2 h4 l4 HO1 HO2 hp0 hb2 v0 v1 vl;have u0:=LO2.out.gC 0;have u1:=LO2.out.gC 1;have ul:=LO2.out.lt;go_wp2_with (first
  |(at_builtin;rw[←HWA.out];refine kP uh (base:=WA.heap.size) (v:=.slice none 0 0) (n:=0) (m:=0) (xs:=[]) (ms:=l8 ([]:List Ob)) (p:=qb) rf (.tmp 57) (.tmp 59) rf rf rf (aT _ _ _ _) LE0.out S0.out OE.out om (aI _) ?_;intro q3 k3 w4 hown3 hg3 AB;have b3:Below WA.heap.size WA w4:=(aL _ _).grown hg3 (aI _) (fun r hr=>by cases hr);rw[bK] at hown3 AB;rw[dx] at hown3;obtain⟨⟨h0,h1,hf,hl⟩,⟨y0,y1,yl⟩,_⟩:=KP.out w4 b3;have HO3:=ah hown3;have HB3:=ah b3;clear hown3 hg3 AB b3)
  |(at_builtin;go_loud (refine sH uh (base:=WA.heap.size) (v:=.slice q3 0 k3) (n:=0) (ms:=[.int .i64 o.1,.int .i64 o.2]) (ad:=⟨w4.heap.size,0,none⟩) rf (.tmp 61) (.tmp 63) rf rf rf (HO3.out.alloc _) rfl (oK w4 (.int .i64 o.1) (.int .i64 o.2) 40) (oL _ _) om (by have:=HB3.out.size;simp;omega) ?_);intro q4 k4 w5 kV hg4 Jf;have b5:Below WA.heap.size WA w5:=((HB3.out.alloc HB3.out.size (.cells #[.int .i64 o.1,.int .i64 o.2] 40))).grown hg4 (by have:=HB3.out.size;simp;omega) (fun r hr=>(HO3.out.lt r hr).1);obtain⟨⟨h0',h1',hf',hl'⟩,_,p1,pl1,fg0,fg1,gl5,⟨u0',cg0⟩,⟨u1',cg1⟩⟩:=KP.out w5 b5;have FF:=ah (FIN.out w5 q4 k4);have HO4:=ah kV;have HB5:=ah b5;clear kV hg4 Jf b5))
 refine lJ 7 kR kR ?_;simp only[aQ,aV,aP,aU];repeat still_step
 refine wpStill_nil ?_;go_wp2;go_ret;exact FF.out _ HB5.out HO4.out rfl
theorem RD.push {n:Nat} {u:Value} {l1:List Ob} {WA w4:World} {q4:Option Addr} {k4:Nat} (h:RD X' WA pd gh pc pm gN e mn lw hi O M v A V vp U d) (b4:Below WA.heap.size WA w4) (own:w4.ownsRow WA.heap.size 38 1 (.slice q4 (n+1) k4) (n+1) (U++[u])) (hn:n=d.P.length) (ru:mD X' WA u l1) (hX: ∀x∈X',x<WA.heap.size) (hwp:wp=w4.setCell ⟨pd,2,none⟩ (.slice q4 (n+1) k4)):
 RD X' wp pd gh pc pm gN e mn lw hi O M v A V (.slice q4 (n+1) k4) (U++[u]) ⟨d.c,d.H,d.P++[l1]⟩:=by
 have h4:=h.below b4;have hul:=h.b.ul;have el:(U++[u]).length=n+1:=by simp;omega
 have kk:Keep [pd] w4 wp:=by rw[hwp];exact(Keep.refl _ _).setCell (p:=⟨pd,2,none⟩) (.inl sI) _
 have hd:=h4.b.d.store 2 (.slice q4 (n+1) k4) sI;rw[←hwp] at hd;refine h4.setPile kk hd (qA (base:=WA.heap.size) (by rw[el];exact own) (fun x hx g hg r=>by have:=(own.lt g hg).1;have:=hX x hx;omega)) (by simp;omega) (fun i u' m' hu hm=> ?_);by_cases q:i<U.length
 ·rw[bJ q] at hu
  rw[bJ om] at hm;exact h4.b.po i u' m' hu hm
 ·have hi1:=(au.1 hu).1
  have:i=U.length:=by rw[el] at hi1;omega
  subst this;rw[bP (aI _)] at hu;rw[hul,bP (aI _)] at hm;simp at hu hm;subst hu hm;exact ru.below b4
theorem rdgive_3 (k:Nat) (o:Ob) (h:RD X w pd gh pc pm gN e mn lw hi O M v A V vp U d) (hI:pU e d) (hX: ∀x∈X,x<w.heap.size) {l1 l2:List Ob} (hk:d.H[k]?=some (l1,l2)) (h4:l1.length=4) (hne:l2≠[]) (ho:Ay e d o=true):
 Calls prog 51 #[.pointer (some ⟨pd,0,none⟩),.int .i64 k,.agg #[.int .i64 o.1,.int .i64 o.2]] w (mO X pd gh pc pm gN e mn lw hi O M A w (lI e d k o).1 (.int .i64 (lI e d k o).2)):=by
 have hkl:=(au.1 hk).1;have ef:qE (l1,l2) d.P=(([],l2),d.P++[l1]):=by unfold qE;rw[if_pos h4,if_neg hne]
 have eg:lI e d k o=(⟨d.c,d.H.set k ([]++[o],l2),d.P++[l1]⟩,0):=by unfold lI;rw[oZ hk];simp only[ho,if_true,ef];rfl
 rw[eg];obtain⟨wa,hwa⟩:=eY (w.alloc (.cells #[.int .i64 o.1,.int .i64 o.2] 40));have b1:Below w.heap.size w wa:=by rw[hwa];exact jY
 have LO:=ah (show jR wa w.heap.size [.int .i64 o.1,.int .i64 o.2] from by rw[hwa];exact jR.mk_ w [.int .i64 o.1,.int .i64 o.2] 40 rfl);have IW0:=(h.below b1).worker k;rw[dQt (show 0≤(k:Int)∧(k:Int)<d.H.length from om)] at IW0;have IW:=ah IW0;have IO0:=AJ o (h.below b1) hI;rw[ho] at IO0;have IO:=ah IO0;have B1:=ah b1;have hH4:=hI.hl;have l4:=hI.h4 _ (aF hk);simp only at l4;have pl:d.P.length≤16384:=by have:=(o9 hI).1;have:=oU hI.c;omega
 obtain⟨qp,kp,evp,kp1,kp2,_⟩:=h.pile;subst evp;unfold maxLen at kp2;have v0:=LO.out.gC 0;have v1:=LO.out.gC 1;have vl:=LO.out.lt;have HH:=ah h;have HK:=ah hk;have HX:=ah hX;have HKL:=ah hkl;obtain⟨nH,hnH⟩: ∃n,n=d.H.length:=⟨_,rfl⟩;have ENH:=ah hnH;rw[←hnH] at hkl hH4;clear h hI hk b1 IW0 IO0 ho ef eg hnH hX;go_in
 go_wp2_with fail;rw[←hwa];clear hwa;refine IW.out.mono ?_;rintro r w1 ⟨rfl,rfl⟩;clear IW;go_wp2_with fail;refine IO.out.mono ?_;rintro r w2 ⟨rfl,hb2⟩;have B2:=ah (B1.out.trans (hb2.mono B1.out.size));have z2:=B2.out.size;have LO2:=ah (LO.out.go hb2);obtain⟨p,hp,o1,o2,g0,g1,f0,f1,gl⟩:=(HH.out.below B2.out).hand HK.out;obtain⟨⟨pa,pb⟩,rfl⟩: ∃q,q=p:=⟨_,rfl⟩;obtain⟨qa,ca,e1,ka1,ka2⟩:=o1.isSlice;obtain⟨qb,cb,e2,kb1,kb2⟩:=o2.isSlice;simp only at e1 e2 g0 g1 hp o1 o2 ka1 kb1;subst e1 e2;have c1:=(HH.out.below B2.out).b.d.gC 1;have cl:=(HH.out.below B2.out).b.d.lt;rw[←ENH.out] at c1;have hvl:k<V.length:=by rw[HH.out.b.hl];exact HKL.out
 have glw:gh<w.heap.size:=HH.out.b.hs.lt;have plw:pd<w.heap.size:=HH.out.b.d.lt;obtain⟨hbx,hhbx⟩:=eY w2.heap.size;have n1: ¬(gh=w2.heap.size):=om;have n2: ¬(w2.heap.size=gh):=om;have n3: ¬(pd=w2.heap.size):=om;have n4: ¬(w2.heap.size=pd):=om;have n5: ¬(w.heap.size=w2.heap.size):=by have:=LO2.out.lt;omega
 have NRD:Hid (w2.heap.size∉rds pd gh pc pm gN A M):=fun q=>by have:=(HH.out.below B2.out).lt _ q;omega
 have i0:(0:Int)≤(k:Int):=om;have i1:(k:Int)<(nH:Int):=om;have hp0:Hid (V[k]?=some (.slice qa l1.length ca,.slice qb l2.length cb)):=hp;have HO1:=ah o1;have HO2:=ah o2;obtain⟨m2,hm2⟩: ∃m,m=l2.length:=⟨_,rfl⟩;have HO1:Hid (mD X w2 (.slice qa 4 ca) l1):=by have t:=HO1.out;rw[h4] at t;exact t
 have HO2:Hid (mD X w2 (.slice qb m2 cb) l2):=by have t:=HO2.out;rw[←hm2] at t;exact t
 rw[h4] at g0 ka1;rw[←hm2] at g1 kb1 l4;have hm0:0<m2:=by rw[hm2];exact List.length_pos_iff.2 hne
 have hm4:m2≤4:=l4.2;have d0:decide ((m2:Int)=0)=false:=dQf om;have d0':(m2==0)=false:=by simp;omega
 obtain⟨WA,hWA⟩:=eY (w2.alloc (.cells #[.slice qa 4 ca,.slice qb m2 cb] 153));have bA:Below w2.heap.size w2 WA:=by rw[hWA];exact jY
 have zA:WA.heap.size=w2.heap.size+1:=by rw[hWA];simp
 have LH:=ah (show jR WA w2.heap.size [.slice qa 4 ca,.slice qb m2 cb] from by rw[hWA];exact jR.mk_ w2 [.slice qa 4 ca,.slice qb m2 cb] 153 rfl);have LOA:=ah (LO2.out.go bA);have BA:=ah (B2.out.trans (bA.mono z2));have yR: ∀y∈w2.heap.size::X,y∈X∨w.heap.size≤y:=fun y hy=>by
  rcases aB.1 hy with rfl|q
  ·exact .inr z2
  ·exact .inl q
 have RA:=ah ((HH.out.more (Y:=w2.heap.size::X) (fun x q=>ak _ q) yR).below BA.out);have Cc: ∀y∈w2.heap.size::X,y∈X∨w2.heap.size≤y:=fun y hy=>by
  rcases aB.1 hy with rfl|q
  ·exact .inr (aI _)
  ·exact .inl q
 have RO1:=ah ((HO1.out.more Cc).below bA);have RO2:=ah ((HO2.out.more Cc).below bA);have X1:Hid (∀x∈X,x∈w2.heap.size::X):=fun x q=>ak _ q
 have X2:Hid (∀x∈w2.heap.size::X,x∈X∨w.heap.size≤x):=yR;have X3:Hid (∀x∈w2.heap.size::X,x<WA.heap.size):=fun x q=>by
  rcases aB.1 q with rfl|q
  ·omega
  ·have:=HX.out x q;omega
 obtain⟨nP,hnP⟩: ∃n,n=d.P.length:=⟨_,rfl⟩;have ENP:=ah hnP;have c2:=(HH.out.below B2.out).b.d.gC 2;rw[←hnP] at c2 kp1 pl;have LU:Hid (U.length=nP):=by show _=_;rw[hnP];exact HH.out.b.ul
 have SU:Hid (uP WA qp U):=by have t:=RA.out.b.row;exact t.src
 have OU:Hid (∀u∈U,u.oneCell'=true):=fun u hu=>by
  obtain⟨i,hi⟩:=dA hu;have il:=(au.1 hi).1;obtain⟨m,hm⟩: ∃m,d.P[i]?=some m:=⟨d.P[i]'(by rw[←HH.out.b.ul];exact il),aA _⟩;obtain⟨qq,cc,eq,_⟩:=(HH.out.b.po i u m hi hm).isSlice;rw[eq];rfl
 have KP:Hid (∀w5,Below WA.heap.size WA w5→(w5.cell? ⟨w2.heap.size,0,none⟩=some (.slice qa 4 ca)∧w5.cell? ⟨w2.heap.size,1,none⟩=some (.slice qb m2 cb)∧w5.frozen? ⟨w2.heap.size,0,none⟩=false∧w2.heap.size<w5.heap.size)∧w5.cell? ⟨pd,2,none⟩=some (.slice qp nP kp)∧w5.frozen? ⟨pd,2,none⟩=false∧pd<w5.heap.size∧w5.cell? ⟨w.heap.size,0,none⟩=some (.int .i64 o.1)∧w5.cell? ⟨w.heap.size,1,none⟩=some (.int .i64 o.2)∧w.heap.size<w5.heap.size):=fun w5 b=>by
  have a:=LH.out.go b;have y:=LOA.out.go b;have R5:=RA.out.below b;exact⟨⟨a.gC 0,a.gC 1,a.f 0 sI,a.lt⟩,by rw[ENP.out];exact R5.b.d.gC 2,R5.b.d.f 2 sI,R5.b.d.lt,y.gC 0,y.gC 1,y.lt⟩
 have n6: ¬(pd=w.heap.size):=om;have n7: ¬(w.heap.size=pd):=om;have n8: ¬(w2.heap.size=w.heap.size):=fun q=>n5 q.symm
 have LE0:Hid ((l8 ([]:List Ob)).length=0*2):=by show _=_;simp[lU];try omega
 have OE:Hid (∀u∈l8 ([]:List Ob),u.oneCell'=true):=qP _;have S0:Hid (∀W,uP W none (l8 ([]:List Ob))):=fun W=>.inl ⟨rfl,rfl⟩
 have MK:Hid (∀w4 q4 k4 WB,Below WA.heap.size WA w4→w4.ownsRow WA.heap.size 38 1 (.slice q4 (nP+1) k4) (nP+1) (U++[.slice qa 4 ca])→WB=(w4.setCell ⟨pd,2,none⟩ (.slice q4 (nP+1) k4)).setCell ⟨w2.heap.size,0,none⟩ (.slice none 0 0)→
  (WA.heap.size≤WB.heap.size∧∀w5,Below WB.heap.size WB w5→(w5.cell? ⟨w2.heap.size,0,none⟩=some (.slice none 0 0)∧w5.cell? ⟨w2.heap.size,1,none⟩=some (.slice qb m2 cb)∧w5.frozen? ⟨w2.heap.size,0,none⟩=false∧w2.heap.size<w5.heap.size)∧(w5.cell? ⟨w.heap.size,0,none⟩=some (.int .i64 o.1)∧w5.cell? ⟨w.heap.size,1,none⟩=some (.int .i64 o.2)∧w.heap.size<w5.heap.size)∧w5.cell? ⟨pd,1,none⟩=some (.slice (some ⟨gh,0,none⟩) nH nH)∧pd<w5.heap.size∧w5.frozen? ⟨gh,k*2,none⟩=false∧w5.frozen? ⟨gh,k*2+1,none⟩=false∧gh<w5.heap.size∧(∃u0,w5.cell? ⟨gh,k*2,none⟩=some u0)∧∃u1,w5.cell? ⟨gh,k*2+1,none⟩=some u1)∧
  ∀w5 q5 k5 W,Below WB.heap.size WB w5→w5.ownsRow WB.heap.size 40 2 (.slice q5 (0+1) k5) (0+1) (l8 ([]:List Ob)++[.int .i64 o.1,.int .i64 o.2])→W=(((w5.setCell ⟨w2.heap.size,0,none⟩ (.slice q5 (0+1) k5)).setCell ⟨gh,k*2,none⟩ (.slice q5 (0+1) k5)).setCell ⟨gh,k*2+1,none⟩ (.slice qb m2 cb)).drew→mO X pd gh pc pm gN e mn lw hi O M A w ⟨d.c,d.H.set k ([]++[o],l2),d.P++[l1]⟩ (.int .i64 0) (.returned (.int .i64 0)) W):=fun w4 q4 k4 WB b4 own4 hWB=>by
  obtain⟨wp,hwp⟩:=eY (w4.setCell ⟨pd,2,none⟩ (.slice q4 (nP+1) k4));have RP:=RA.out.push b4 own4 ENP.out RO1.out X3.out hwp;rw[←hwp] at hWB;have z4:=b4.size;have kp4:Keep [pd] w4 wp:=by rw[hwp];exact(Keep.refl _ _).setCell (p:=⟨pd,2,none⟩) (.inl sI) _
  have kb:Keep [w2.heap.size] wp WB:=by rw[hWB];exact(Keep.refl _ _).setCell (p:=⟨w2.heap.size,0,none⟩) (.inl sI) _
  have lh:jR WB w2.heap.size [.slice none 0 0,.slice qb m2 cb]:=by rw[hWB];exact((LH.out.go b4).keep kp4 (by simpa using n4)).store 0 (.slice none 0 0) sI
  have lo:jR WB w.heap.size [.int .i64 o.1,.int .i64 o.2]:=((LOA.out.go b4).keep kp4 (by simp;omega)).keep kb (by simpa using n5);have RB:=RP.keep kb (fun s q=>by simp at q;subst q;exact .inl ⟨aG ..,NRD.out⟩);have zp:=kp4.size;have zb:=kb.size;refine⟨⟨om,fun w5 b=> ?_⟩,fun w5 q5 k5 W b5 own hW=> ?_⟩
  ·have a:=lh.go b
   have y:=lo.go b;have R5:=RB.below b;obtain⟨p5,_,_,_,g0,g1,f0,f1,gl5⟩:=R5.hand HK.out;exact⟨⟨a.gC 0,a.gC 1,a.f 0 sI,a.lt⟩,⟨y.gC 0,y.gC 1,y.lt⟩,by rw[ENH.out];exact R5.b.d.gC 1,R5.b.d.lt,f0,f1,gl5,⟨_,g0⟩,⟨_,g1⟩⟩
  ·have k2:Keep [w2.heap.size] wp (w5.setCell ⟨w2.heap.size,0,none⟩ (.slice q5 (0+1) k5)).drew:=((kb.step b5).setCell (p:=⟨w2.heap.size,0,none⟩) (.inl sI) _).drew
   have x3: ∀x∈w2.heap.size::X,x<wp.heap.size:=fun x q=>by have:=X3.out x q;omega
   have ru0:mD (w2.heap.size::X) w5 (.slice q5 (0+1) k5) (([]:List Ob)++[o]):=by
    rw[←lY] at own;exact qX own (fun g hg q=>by have:=(own.lt g hg).1;have:=x3 g q;omega)
   have ru:=ru0.keep (((Keep.refl [w2.heap.size] w5).setCell (p:=⟨w2.heap.size,0,none⟩) (.inl sI) (.slice q5 (0+1) k5)).drew) (fun s q=>by simp at q;subst q;exact .inl (aG ..));have k1:Keep [pd] w wp:=(Keep.of (BA.out.trans (b4.mono BA.out.size))).then kp4;exact RD.fin RP HKL.out k1 k2 (aG ..) NRD.out z2 X1.out X2.out x3 ru ((RO2.out.below b4).keep kp4 (fun s q=>by simp at q;subst q;exact .inl (RP.b.mem.1))) (hW.trans (by first|rfl|simp only[go_sem]|simp[go_sem]))
 have HWA:=ah hWA;clear hp hWA o1 o2 f0 f1 yR Cc bA h4 l4 HO1 HO2 hp0 hb2 v0 v1 vl hm2 hnP;have u0:=LO2.out.gC 0;have u1:=LO2.out.gC 1;have ul:=LO2.out.lt;go_wp2_with (first
  |(at_builtin;rw[←HWA.out];refine lM VI (base:=WA.heap.size) (v:=.slice none 0 0) (us:=[]) (ms:=U) (p:=qp) rf (.tmp 42) (.tmp 46) rf rf 0 nP rf rfl LU.out (aT _ _ _ _) SU.out OU.out om (aI _) ?_;intro q3 k3 w3 hown3 hg3 AB;have b3:Below WA.heap.size WA w3:=(aL _ _).grown hg3 (aI _) (fun r hr=>by cases hr);rw[bK] at hown3 AB;rw[dx] at hown3;obtain⟨⟨h0,h1,hf,hl⟩,y2,yf,yl,_⟩:=KP.out w3 b3;have HO3:=ah hown3;have HB3:=ah b3;clear hown3 hg3 AB b3)
  |(at_builtin;go_loud (refine lM VI (base:=WA.heap.size) (v:=.slice q3 nP k3) (us:=U) (ms:=[.slice qa 4 ca]) (p:=some ⟨w3.heap.size,0,none⟩) rf (.tmp 49) (.tmp 52) rf rf nP 1 rf LU.out rfl (HO3.out.alloc _) (qQ w3 (.slice qa 4 ca) 38) (by simp;rfl) om (by have:=HB3.out.size;simp;omega) ?_);intro q4 k4 w4 kV hg4 Jf;have b4:Below WA.heap.size WA w4:=((HB3.out.alloc HB3.out.size (.cells #[.slice qa 4 ca] 38))).grown hg4 (by have:=HB3.out.size;simp;omega) (fun r hr=>(HO3.out.lt r hr).1);obtain⟨⟨h0',h1',hf',hl'⟩,y2',yf',yl',y0',y1',yz'⟩:=KP.out w4 b4;obtain⟨WB,hWB⟩:=eY ((w4.setCell ⟨pd,2,none⟩ (.slice q4 (nP+1) k4)).setCell ⟨w2.heap.size,0,none⟩ (.slice none 0 0));have MM:=ah (MK.out w4 q4 k4 WB b4 kV hWB);have ZB:Hid (WB.heap.size=w4.heap.size):=(by show _=_;rw[hWB];simp);have HWB:=ah hWB;clear kV hg4 Jf b4 hWB)
  |(at_builtin;rw[←HWB.out];go_loud (refine sH uh (base:=WB.heap.size) (v:=.slice none 0 0) (n:=0) (xs:=l8 ([]:List Ob)) (ms:=[.int .i64 o.1,.int .i64 o.2]) (ad:=⟨w4.heap.size,0,none⟩) rf (.tmp 61) (.tmp 63) rf rf rf (aT _ _ _ _) rfl (by have t:=oK WB (.int .i64 o.1) (.int .i64 o.2) 40;rw[ZB.out] at t;exact t) (oL _ _) om sI ?_);intro q5 k5 w5 hown5 hg5 hob5;have b5:Below WB.heap.size WB w5:=((aL WB.heap.size WB).alloc (aI _) (.cells #[.int .i64 o.1,.int .i64 o.2] 40)).grown hg5 sI (fun r hr=>by cases hr);obtain⟨⟨hb0,hb1,hbf,hbl⟩,_,p1,pl1,fg0,fg1,gl5,⟨u0',cg0⟩,⟨u1',cg1⟩⟩:=MM.out.1.2 w5 b5;have FF:=ah (MM.out.2 w5 q5 k5);have HO5:=ah hown5;have HB5:=ah b5;clear hown5 hg5 hob5 b5))
 refine lJ 7 kR kR ?_;simp only[aQ,aV,aP,aU];repeat still_step
 refine wpStill_nil ?_;go_wp2;go_ret;exact FF.out _ HB5.out HO5.out rfl
theorem Tw (k:Int) (o:Ob) (h:RD X w pd gh pc pm gN e mn lw hi O M v A V vp U d) (hI:pU e d) (hX: ∀x∈X,x<w.heap.size):
 Calls prog 51 #[.pointer (some ⟨pd,0,none⟩),.int .i64 k,.agg #[.int .i64 o.1,.int .i64 o.2]] w (mO X pd gh pc pm gN e mn lw hi O M A w (lI e d k o).1 (.int .i64 (lI e d k o).2)):=by
 cases hh:p8 d k with
 |none=>exact Tv k o h hX hh
 |some g=>
  obtain⟨k0,h1,h2,h3⟩:=qH hh;obtain⟨kn,hkn⟩:=eY k.toNat;rw[←hkn] at h1 h2 h3;subst h3;obtain⟨g1,g2⟩:=g;cases ho:Ay e d o with
  |false=>exact Ii kn o h hI hX h2 ho
  |true=>
   by_cases q:g1.length=4
   ·cases g2 with
    |nil=>exact rdgive_2 kn o h hI hX (l2:=[]) h1 q ho
    |cons a r=>exact rdgive_3 kn o h hI hX h1 q sI ho
   ·exact rdgive_1 kn o h hI hX h1 q ho
end
