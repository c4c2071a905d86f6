/- Lemmas. -/
import Derived.Test.YtehhldljdakgeaaGreatDoorQb01
import Derived.Test.YtehhldljdakgeaaGreatDoorQb26
import Derived.Test.YtehhldljdakgeaaGreatDoorQb27
set_option linter.unusedSimpArgs false
set_option linter.unusedVariables false
set_option maxHeartbeats 16000000
set_option maxRecDepth 100000
namespace Go.Proofs.YtehhldljdakgeaaGreatDoor
open Go.RowKit Go.Maps Go.Proofs.Tryz
attribute [local go_sem ↓] aJ aK
theorem neqP (n a k m b c:Int) (w:World):(binOp .neq 215 (.agg #[.int .i64 n,.int .i64 a,.int .i64 k]) (.agg #[.int .i64 m,.int .i64 b,.int .i64 c])).run prog w= .ok (.bool (!(n==m&&(a==b&&k==c)))) w:=by
 have u3:=bB;have a3:=gZ;have z3:=gK;have ub:=Tryz.underlying213;have zb:=Tryz.sizeOf213;have hS:prog.underlying 215=some (.struct (prog.fieldsOf 215)):=kR;have hp:prog.stoodInHeld 215=false:=kR;have hS2:prog.underlying 213=some (.struct (prog.fieldsOf 213)):=kR;have hp2:prog.stoodInHeld 213=false:=kR;rw[run_neq_struct,show(10000:Nat)=9999+1 from rfl,run_equalIn_agg w 9999 215 _ _ hS hp];simp only[Program.fieldsOf,Tryz.underlying215];go_simp
 by_cases h1:n=m<;>by_cases h2:a=b<;>by_cases h3:k=c<;>simp[h1,h2,h3]
theorem guardP:prog.eqGuardType prog.depth 215=false:=kR
section
open Go.RowKit Go.ChangeShapes
theorem len2 {α:Type} {l:List α} (h:l.length=2): ∃a b,l=[a,b]:=by
 match l,h with
 |[a,b],_=>exact⟨a,b,rfl⟩
theorem len5 {α:Type} {l:List α} (h:l.length=5): ∃a b c d e,l=[a,b,c,d,e]:=by
 match l,h with
 |[a,b,c,d,e],_=>exact⟨a,b,c,d,e,rfl⟩
theorem len6 {α:Type} {l:List α} (h:l.length=6): ∃a b c d e f,l=[a,b,c,d,e,f]:=by
 match l,h with
 |[a,b,c,d,e,f],_=>exact⟨a,b,c,d,e,f,rfl⟩
end
section
open Go.RowKit Go.ChangeShapes
end
theorem Kj (f:Sl→Nat) (r:Nat): ∀(C:List Sl),(∀s∈C,f s≤r)→(C.map f).sum≤C.length*r∧((C.map f).sum=C.length*r→∀s∈C,f s=r)
 |[],h=>sI
 |c::C,h=>by
  obtain⟨h1,h2⟩:=Kj f r C fun s q=>h s (ak _ q)
  have h3:=h c sI;simp only[bH,List.sum_cons,dB,Nat.succ_mul];refine⟨om,fun q s hs=> ?_⟩;rcases aB.1 hs with rfl|hs
  ·omega
  ·exact h2 om s hs
section
variable {mn:Int} {O:List (List Int)} {pages e i:Nat} {c:Ca}
theorem qV.le (h:qV pages e i c):c.C.length≤pages:=by
 obtain⟨x,hx,hs⟩:=h.one;have:=p9 x.F;omega
theorem qV.room (h:qV pages e i c):yK c.C=c.C.length*kL e:=FH _ _ _ fun s hs=>h.inv.len s hs
theorem qV.max (h:qV pages e i c):i≤c.C.length*kL e:=by
 rw[←h.tk];exact(Kj kK (kL e) c.C fun s hs=>by rw[←h.inv.len s hs];exact qR _).1
theorem qV.stop (h:qV pages e (pages*kL e) c) (hO:rM O 1):
 takeC mn O e c 0 true=(c,5,(0,0))∧tq c.C=pages*kL e∧yK c.C=pages*kL e∧∃x,c.L=[x]∧oJ x.F=0:=by
 have hp:=rZ h.inv.e1 h.inv.e2;have hm:=h.max;have hl:=h.le;have hC:c.C.length=pages:=by
  have:=Nat.le_of_mul_le_mul_right hm hp;omega
 obtain⟨x,hx,hs⟩:=h.one;have hs0:oJ x.F=0:=om;refine⟨?_,h.tk,by rw[h.room,hC],x,hx,hs0⟩;have hall:=(Kj kK (kL e) c.C fun s hs=>by rw[←h.inv.len s hs];exact qR _).2 (by have:=h.tk;unfold tq at this;rw[this,hC]);have hv: ¬((0:Int)<0∨(c.L.length:Int)≤0):=by rw[hx];simp
 unfold takeC;rw[if_neg hv];have hb:oh 0 c.C c.C.length=none:=by
  cases hb:oh 0 c.C c.C.length with
  |none=>rfl
  |some k=>
   obtain⟨_,s,hk,hn,hm⟩:=mV hb;have:=hall s (aF hk);rw[h.inv.len s (aF hk)] at hm;omega
 rw[hb];simp only[hx,(take_one (mn:=mn) hO (h.inv.zi x (by rw[hx];simp))).1 hs0];have:c=⟨[x],c.C⟩:=by rw[←hx]
 simp;exact this.symm
end
theorem Kk {C:List Sl} {i:Nat} {s:Sl} (h:C[i]?=some s):tq (C.take (i+1))=tq (C.take i)+kK s∧yK (C.take (i+1))=yK (C.take i)+s.T.length:=by
 rw[bR,h];unfold tq yK;simp
section
variable {B:Nat} {ev:Nat→Addr} {pc pz e:Nat} {mn lw hi:Int} {O:List (List Int)} {X:List Nat} {vs:Value} {A:SA} {c:Ca} {w:World}
theorem count_ok (h:CS B w pc pz mn lw hi O e X vs A c) (hI:uR e c):
 Calls prog 98 #[.pointer (some ⟨pc,0,none⟩)] w fun r w'=>r= .returned (.tuple #[.int .i64 (tq c.C),.int .i64 (yK c.C)])∧Below w.heap.size w w':=by
 obtain⟨qv,kv,evs,kv1,kv2,hrow⟩:=h.ch.form;subst evs;have hl64:Hid (∀s∈c.C,s.T.length≤64):=fun s hs=>by rw[hI.len s hs];unfold kL;exact dW _ _
 have few:=hI.few;have c2:=h.ch.c.gC 2;have cl:=h.ch.c.lt;have D6:=ah hrow;have HC:=ah h.ch;have BD:Hid (∀i,tq (c.C.take i)≤65536∧yK (c.C.take i)≤65536):=fun i=>by
  obtain⟨h1,h2⟩:=FJ (C:=c.C.take i) fun s hs=>hl64.out s (fD hs)
  have h3:(c.C.take i).length≤1024:=by rw[bD];omega
  omega
 have ALL:Hid (c.C.take c.C.length=c.C):=by show _=_;simp
 obtain⟨n,hn⟩:=eY c.C.length;have EN:=ah hn;rw[←hn] at c2 few kv1 ALL;unfold maxLen at kv2;clear h hI hrow hn;go_in
 go_wp2_with fail;go_loopw [2,3,11] (fun tv rv iv wr=>∃i:Nat,i≤n∧tv= .int .i64 (tq (c.C.take i))∧rv= .int .i64 (yK (c.C.take i))∧iv= .int .i64 i∧Below w.heap.size w wr) (fun _ _ iv _=>n-(intOf iv).toNat);case atStart=>exact⟨0,om,rfl,rfl,by go_num,jY⟩
 case round=>
  obtain⟨i,hile,rfl,rfl,rfl,hbel⟩:=hrel;have BW:Hid (∀W,Below wr.heap.size wr W→Below w.heap.size w W):=fun W b=>hbel.trans (b.mono hbel.size)
  by_cases hin:i<n
  ·obtain⟨s,hs⟩: ∃s,c.C[i]?=some s:=⟨c.C[i]'(by rw[←EN.out];exact hin),aA _⟩
   obtain⟨p,hp,hsl,_⟩:=(HC.out.below hbel).at hs;obtain⟨g,rfl,hg,hc0⟩:=D6.out i p hp;have ck:wr.cell? ⟨g,i,none⟩=some (.pointer (some ⟨p.1,0,none⟩)):=(hbel.cell (p:=⟨g,i,none⟩) hg).trans hc0;have gl:g<wr.heap.size:=aC hg hbel.size;have hik:i<kv:=om;obtain⟨d0,d1,_,d3,d4,dl,_⟩:=hsl.cells;obtain⟨t1,t2⟩:=BD.out i;have s1:=hl64.out s (aF hs);have s2:kK s≤s.T.length:=qR _;obtain⟨n1,n2⟩:=Kk hs;have N1:=ah n1;have N2:=ah n2;clear hc0 hsl hs hp n1 n2;generalize kK s=a at*
   generalize s.T.length=l at*
   generalize tq (c.C.take i)=ta at*
   generalize yK (c.C.take i)=ro at*
   go_wp2_with fail;go_quiet (fail);go_wp2;go_round
   case rel=>exact⟨i+1,om,by rw[N1.out];go_num,by rw[N2.out];go_num,by go_num,BW.out _ jY⟩
   case measure=>simp[intOf];omega
  ·obtain rfl:i=n:=by omega
   rw[ALL.out];go_wp2;go_ret2
   exact⟨rfl,hbel⟩
end
theorem elPl:ElS 202 215 (.agg #[.int .i64 0,.int .i64 0,.int .i64 0]) 3 24:=⟨Tryz.underlying202,kR,rfl,om,om⟩
theorem CG {T E:TypeId} {z:Value} {s b:Nat} (hE:ElS T E z s b) {base:Nat} {v:Value} {n:Nat} {xs ms:List Value} {w:World} {ad:Addr} {c:Nat} {ops:Array Oper} {rest:List Oper} {o:Oper} {a:Act} {Q:Exit→Act→World→Prop} (hgd:o.guard=none) (sl x:Operand)
 (ho:o.op= .call {callee:=.builtin .append,args:=#[sl,x],argTypes:=#[T,T]}) (hv:a.eval sl=v) (hx:a.eval x= .slice (some ad) 1 c)
 (hown:w.ownsRow base E s v n xs) (hm:ms.length=s) (hc: ∀(j:Nat) (u:Value),ms[j]?=some u→w.cell? (ad.add j)=some u) (h1: ∀u∈ms,u.oneCell'=true) (hl:n≤70000) (hb:base≤w.heap.size)
 (h: ∀q k w',w'.ownsRow base E s (.slice q (n+1) k) (n+1) (xs++ms)→w.grownBy w' v.ownBlock→wpList prog ops Q rest (a.put o.dst (.slice q (n+1) k)) w'):wpList prog ops Q (o::rest) a w:=by
 refine wpList_plain hgd fun K hK=> ?_
 obtain⟨q,k,w',hrun,h2,h3⟩:=Qf hE (w:=w) o.type hown hm hc h1 hl hb (c:=c);unfold Oper.wp execOp;simp only[ho,resolve,invoke,builtin,fH,fQ,dZ,eD,bH,eu,hv,hx,hrun];exact hK _ _ (h q k w' h2 h3)
section
variable {B:Nat} {ev:Nat→Addr} {pc pz e:Nat} {mn lw hi:Int} {O:List (List Int)} {X:List Nat} {vs:Value} {A:SA} {c:Ca} {w:World}
theorem Xu (h:CS B w pc pz mn lw hi O e X vs A c) (hI:uR e c):
 Calls prog 103 #[.pointer (some ⟨pc,0,none⟩)] w fun r w'=>∃v,r= .returned v∧OwnO w w' v (qj e c.C):=by
 obtain⟨qv,kv,evs,kv1,kv2,hrow⟩:=h.ch.form;subst evs;have e1:=hI.e1;have e2:=hI.e2;have few:=hI.few;have HIN:=ah hI;have D6:=ah hrow;have HC:=ah h.ch;have HL64:Hid (∀s∈c.C,s.T.length≤64):=fun s hs=>by rw[hI.len s hs];unfold kL;exact dW _ _
 have c1:=h.ch.c.gC 1;have c2:=h.ch.c.gC 2;have cl:=h.ch.c.lt;have ALL:Hid (c.C.take c.C.length=c.C):=by show _=_;simp
 obtain⟨nn,hnn⟩:=eY c.C.length;have EN:=ah hnn;rw[←hnn] at c2 few kv1 ALL;have OL:Hid (∀i,i≤nn→(qj e (c.C.take i)).length≤65536):=fun i hi=>by
  have:=FM (e:=e) (C:=c.C.take i) fun s hs=>HL64.out s (fD hs)
  rw[bD] at this;omega
 unfold maxLen at kv2;clear h hI hrow hnn;go_in
 go_wp2_with fail;go_loopw [3,13] (fun ov iv wr=>∃(i:Nat),i≤nn∧iv= .int .i64 i∧Hid (wr.ownsRow w.heap.size 40 2 ov (qj e (c.C.take i)).length (l8 (qj e (c.C.take i))))∧Below w.heap.size w wr) (fun _ iv _=>nn-(intOf iv).toNat);case atStart=>exact⟨0,om,by go_num,aT _ _ _ _,aL _ _⟩
 case round=>
  obtain⟨i,hile,rfl,HO,hbel⟩:=hrel;by_cases hin:i<nn
  ·obtain⟨s,hs⟩: ∃s,c.C[i]?=some s:=⟨c.C[i]'(by rw[←EN.out];exact hin),aA _⟩
   obtain⟨p,hp,hsl,_⟩:=(HC.out.below hbel).at hs;obtain⟨g,rfl,hg,hc0⟩:=D6.out i p hp;have ck:wr.cell? ⟨g,i,none⟩=some (.pointer (some ⟨p.1,0,none⟩)):=(hbel.cell (p:=⟨g,i,none⟩) hg).trans hc0;have gl:g<wr.heap.size:=aC hg hbel.size;have hik:i<kv:=om;obtain⟨d0,d1,_,d3,d4,dl,dl2⟩:=hsl.cells;have hsm:=aF hs;obtain⟨_,_,r3,r4⟩:=HIN.out.rng hsm;have l64:=HL64.out s hsm;have SW:=ah ((HC.out).sl i p s hp hs);have OLi:=OL.out i hile;have SN:=ah (Hz (e:=e) hs);have HKA:=ah (FK e s);obtain⟨l,hll⟩:=eY s.T.length;have HLL:=ah hll;rw[←hll] at l64 d3 HKA;clear hc0 hsl hs hp hsm hll;go_wp2_with fail;go_loopw [3,22] (fun ov kv wi=>∃(k:Nat),k≤l∧kv= .int .i64 k∧Hid (wi.ownsRow w.heap.size 40 2 ov ((qj e (c.C.take i)).length+(JJ e s k).length) (l8 (qj e (c.C.take i)++JJ e s k)))∧Below w.heap.size w wi) (fun _ kv _=>l-(intOf kv).toNat);case atStart=>exact⟨0,om,by go_num,(show wr.ownsRow _ _ _ _ _ _ from by have:=HO.out;simpa[JJ] using this),hbel⟩
   case round=>
    obtain⟨k,hkl,rfl,HOk,hbk⟩:=hrel;obtain⟨y0,y1,_,y3,y4,yl,yl2⟩:=(SW.out.keep (Keep.of (S:=[]) hbk) sI sI).cells;have yb:=ah (SW.out.keep (Keep.of (S:=[]) hbk) sI sI);have p1:wr.cell? ⟨pc,1,none⟩=some (.int .i64 e):=(hbk.cell (p:=⟨pc,1,none⟩) cl).trans c1;have pl:pc<wr.heap.size:=aC cl hbk.size;by_cases hlt:k<l
    ·obtain⟨bt,hbt⟩: ∃bt,s.T[k]?=some bt:=⟨s.T[k]'(by rw[←HLL.out];exact hlt),aA _⟩
     have ct:=yb.out.2.c k _ (oq hbt);cases bt with
     |false=>
      have KN:=ah (VA (e:=e) hbt);clear hbt;go_wp2;go_round
      case rel=>exact⟨k+1,om,by go_num,by rw[KN.out];exact HOk,hbk⟩
      case measure=>simp[intOf];omega
     |true=>
      have KN:=ah (Qg (e:=e) hbt);have ke0:(0:Int)≤(k:Int)*(e:Int):=fO om om;have ke1:(k:Int)*(e:Int)≤4096:=by
       have:=eP (show k≤64 by omega) e2;have h2:((k*e:Nat):Int)≤((64*64:Nat):Int):=om;simpa using h2
      have OLK:=FL e s k;have HB2:=ah hbk;have hw1:IntKind.i64.wrap (s.pg*64)=s.pg*64:=aY _ om;have hw2:IntKind.i64.wrap ((k:Int)*(e:Int))=(k:Int)*(e:Int):=aY _ om;have hw3:IntKind.i64.wrap (s.pg*64+(k:Int)*(e:Int))=s.pg*64+(k:Int)*(e:Int):=aY _ om;clear hbt;go_wp2_with fail;refine kE (S:=(fun w'=>w'.cell? ⟨p.1,0,none⟩=some (.int .i64 s.nd)∧w'.cell? ⟨p.1,1,none⟩=some (.int .i64 s.pg)∧w'.cell? ⟨pc,1,none⟩=some (.int .i64 e))) 23 #[false,false,false,false,false,false,false,false,false,false,false,false,false,false,false,false,false,false,false,false,false,false,false] rfl kR kR (by(try dsimp only);go_keep) (fun hHeld=> ?_);simp only[aQ,aV];refine tk 0 ?_;refine tk 1 ?_;refine tk 2 ?_;refine tk 3 ?_;refine tk 4 ?_;refine tk 5 ?_;refine tk 6 ?_;refine tk 7 ?_;refine tk 8 ?_;refine tk 9 ?_;refine tk 10 ?_;refine tk 11 ?_;refine tk 12 ?_;refine tk 13 ?_;refine tk 14 ?_;refine tk 15 ?_;refine tk 16 ?_;refine tk 17 ?_;refine tk 18 ?_;refine tk 19 ?_;refine tk 20 ?_;refine wpAnyH_ready (rs:=[21]) kR sI ?_;refine aR (jT rfl) (fun K hK=> ?_) aX;go_simp
      refine hkO hK fun hHeld=> ?_
      clear hK K;refine wpAnyH_ready (rs:=[22]) kR sI ?_;refine aR (jT rfl) (fun K hK=> ?_) aX;refine Hy uh (base:=w.heap.size) (ms:=[.int .i64 s.nd,.int .i64 (s.pg*64+(k:Int)*(e:Int))]) rf (.tmp 28) (.tmp 49) rf rf rf ((HOk.out.alloc _).drew) rfl (fun j u hj=>oK wr _ _ _ j u hj) (oL _ _) om (by have:=HB2.out.size;simp;omega) ?_;intro q4 k4 w4 kV hg4;have hb4:Below w.heap.size w w4:=(HB2.out.alloc (by have:=HB2.out.size;simpa using this) _).drew.grown hg4 (by have:=HB2.out.size;simp;omega) (fun r hr=>(HOk.out.lt r hr).1);obtain⟨z0,z1,_,_,_,zl,_⟩:=(SW.out.keep (Keep.of (S:=[]) hb4) sI sI).cells;have zp:w4.cell? ⟨pc,1,none⟩=some (.int .i64 e):=(hb4.cell (p:=⟨pc,1,none⟩) cl).trans c1;refine hkO hK fun hHeld=> ?_
      clear hK K;refine wpAnyH_done kR ?_ _;simp only[oz,aP,aU];go_wp2;go_round
      case rel=>
       refine⟨k+1,om,by go_num,?_,hb4⟩;show World.ownsRow _ _ _ _ _ _ _;rw[KN.out,aW,←Nat.add_assoc,←bT,lY];exact kV
      case measure=>simp[intOf];omega
    ·obtain rfl:k=l:=by omega
     go_wp2;go_round
     case rel=>
      refine⟨i+1,om,by go_num,?_,hbk⟩;show World.ownsRow _ _ _ _ _ _ _;have:=HOk.out;rw[HKA.out,←aW,←SN.out] at this;exact this
     case measure=>simp[intOf];omega
  ·obtain rfl:i=nn:=by omega
   have HO':=HO.out;rw[ALL.out] at HO';have HOO:=ah HO';clear HO HO';go_wp2;go_ret;exact⟨_,rfl,HOO.out,hbel⟩
theorem IV (l:List Pl) (p:Pl):JK (l++[p])=JK l++[.int .i64 p.1,.int .i64 p.2.1,.int .i64 p.2.2]:=by simp[JK]
theorem CJ {C:List Sl} {i:Nat} {s:Sl} (h:C[i]?=some s):qU (C.take (i+1))=qU (C.take i)++[(s.nd,s.pg,0)]:=by
 rw[bR,h];unfold qU;simp
theorem U5 (C:List Sl):(qU C).length=C.length:=by unfold qU;simp
theorem Xv (h:CS B w pc pz mn lw hi O e X vs A c) (hI:uR e c):
 Calls prog 100 #[.pointer (some ⟨pc,0,none⟩)] w fun r w'=>∃q k,r= .returned (.slice q c.C.length k)∧w'.ownsRow w.heap.size 215 3 (.slice q c.C.length k) c.C.length (JK (qU c.C))∧Below w.heap.size w w':=by
 obtain⟨qv,kv,evs,kv1,kv2,hrow⟩:=h.ch.form;subst evs;have few:=hI.few;have D6:=ah hrow;have HC:=ah h.ch;have c2:=h.ch.c.gC 2;have cl:=h.ch.c.lt;have ALL:Hid (c.C.take c.C.length=c.C):=by show _=_;simp
 obtain⟨nn,hnn⟩:=eY c.C.length;have EN:=ah hnn;rw[←hnn] at c2 few kv1 ALL ⊢;unfold maxLen at kv2;clear h hI hrow hnn;go_in
 go_wp2_with fail;go_loopw [3,11] (fun ov iv wr=>∃(i:Nat) (q:Option Addr) (k:Nat),i≤nn∧iv= .int .i64 i∧ov= .slice q i k∧Hid (wr.ownsRow w.heap.size 215 3 (.slice q i k) i (JK (qU (c.C.take i))))∧Below w.heap.size w wr) (fun _ iv _=>nn-(intOf iv).toNat);case atStart=>exact⟨0,none,0,om,by go_num,rfl,aT _ _ _ _,aL _ _⟩
 case round=>
  obtain⟨i,q,k,hile,rfl,rfl,HO,hbel⟩:=hrel;by_cases hin:i<nn
  ·obtain⟨s,hs⟩: ∃s,c.C[i]?=some s:=⟨c.C[i]'(by rw[←EN.out];exact hin),aA _⟩
   obtain⟨p,hp,hsl,_⟩:=(HC.out.below hbel).at hs;obtain⟨g,rfl,hg,hc0⟩:=D6.out i p hp;have ck:wr.cell? ⟨g,i,none⟩=some (.pointer (some ⟨p.1,0,none⟩)):=(hbel.cell (p:=⟨g,i,none⟩) hg).trans hc0;have gl:g<wr.heap.size:=aC hg hbel.size;have hik:i<kv:=om;obtain⟨d0,d1,d2,d3,d4,dl,dl2⟩:=hsl.cells;have SN:=ah (CJ hs);have HB:=ah hbel;clear hc0 hsl hs hp;go_wp2_with (first|(at_builtin;refine CG elPl (base:=w.heap.size) (v:=.slice q i k) (n:=i) (ms:=[.int .i64 s.nd,.int .i64 s.pg,.int .i64 0]) rf (.tmp 15) (.tmp 20) rf rf rf (HO.out.alloc _) rfl (Co _ _ _ _ _) (by intro u hu;simp at hu;rcases hu with rfl|rfl|rfl<;>rfl) om (by have:=HB.out.size;simp;omega) ?_;intro q4 k4 w4 kV hg4));have hb4:Below w.heap.size w w4:=(HB.out.alloc (by have:=HB.out.size;simpa using this) _).grown hg4 (by have:=HB.out.size;simp;omega) (fun r hr=>(HO.out.lt r hr).1);have HO4:=ah kV;clear kV hg4;go_wp2;go_round
   case rel=>exact⟨i+1,q4,k4,om,by go_num,rfl,(show World.ownsRow _ _ _ _ _ _ _ by rw[SN.out,IV];exact HO4.out),hb4⟩
   case measure=>simp[intOf];omega
  ·obtain rfl:i=nn:=by omega
   have HO':=HO.out;rw[ALL.out] at HO';have HOO:=ah HO';clear HO HO';go_wp2;go_ret;exact⟨_,_,rfl,HOO.out,hbel⟩
end
section
variable {X Y S F:List Nat} {B:Nat} {ev:Nat→Addr} {w w':World} {pd pc pz gh e:Nat} {mn lw hi:Int} {O:List (List Int)} {v vp vp':Value} {A:SA} {V:HV} {U U':List Value} {d:De} {c:Ca} {P':List (List Ob)}
theorem CK (H:List Hd):tJ H=(mQ H).length:=by
 unfold tJ mQ;rw[List.length_flatMap];simp
theorem zU {H:List Hd} {i:Nat} {h:Hd} (hs:H[i]?=some h):tJ (H.take (i+1))=tJ (H.take i)+(h.1.length+h.2.length):=by
 rw[bR,hs];unfold tJ;simp
theorem dheld_ok (h:CD B w X pd pc pz gh mn lw hi O e v A V vp U d) (hI:pU e d):
 Calls prog 53 #[.pointer (some ⟨pd,0,none⟩)] w fun r w'=>r= .returned (.tuple #[.int .i64 (tJ d.H),.int .i64 ((d.P.length*4:Nat):Int)])∧Below w.heap.size w w':=by
 have c1:=h.de.d.gC 1;have cl:=h.de.d.lt;have HH:=ah h;have HI:=ah hI;have hH4:=hI.hl;have ALL:Hid (d.H.take d.H.length=d.H):=by show _=_;simp
 obtain⟨n,hn⟩:=eY d.H.length;have EN:=ah hn;rw[←hn] at c1 hH4 ALL;have pl:Hid (d.P.length≤65536):=by
  show d.P.length≤65536;have hh:=(o9 hI).1;have h2:=oU hI.c;omega
 have BD:Hid (∀i,i≤n→tJ (d.H.take i)≤8*i):=by
  intro i;induction i with
  |zero=>intro _;simp[tJ]
  |succ i ih=>
   intro hi;obtain⟨g,hg⟩: ∃g,d.H[i]?=some g:=⟨d.H[i]' om,aA _⟩;rw[zU hg];have:=ih om;have h4:=hI.h4 g (aF hg);omega
 clear h hI hn;go_in
 go_wp2_with fail;go_loopw [2,11] (fun tv iv wr=>∃i:Nat,i≤n∧iv= .int .i64 i∧tv= .int .i64 (tJ (d.H.take i))∧Below w.heap.size w wr) (fun _ iv _=>n-(intOf iv).toNat);case atStart=>exact⟨0,om,by go_num,by simp[tJ],aL _ _⟩
 case round=>
  obtain⟨i,hile,rfl,rfl,hbel⟩:=hrel;have zr:=hbel.size;by_cases hin:i<n
  ·obtain⟨g,hg⟩: ∃g,d.H[i]?=some g:=⟨d.H[i]'(by rw[←EN.out];exact hin),aA _⟩
   obtain⟨⟨pa,pb⟩,hp,r1,r2,g0,g1,_,_,gl⟩:=(HH.out.below hbel).hand hg;obtain⟨qa,ca,e1,_⟩:=r1.isSlice;obtain⟨qb,cb,e2,_⟩:=r2.isSlice;simp only at e1 e2 g0 g1;subst e1 e2;have l4:=HI.out.h4 g (aF hg);have SN:=ah (zU hg);have bd:=BD.out i om;have j1:(i:Int)<(n:Int):=om;generalize g.1.length=na at*
   generalize g.2.length=nb at*
   generalize tJ (d.H.take i)=t at*
   clear r1 r2 hp hg;go_wp2;go_round
   case rel=>exact⟨i+1,om,by go_num,by rw[SN.out];go_num,hbel.trans jY⟩
   case measure=>simp[intOf];omega
  ·obtain rfl:i=n:=by omega
   rw[ALL.out];obtain⟨q,k,evp,k1,k2,_⟩:=(HH.out.below hbel).de.pile;have c2:=(HH.out.below hbel).de.d.gC 2;have cl2:=(HH.out.below hbel).de.d.lt;rw[evp] at c2;have pl':=pl.out;obtain⟨np,hnp⟩:=eY d.P.length;have HNP:=ah hnp;rw[←hnp] at c2 pl';clear hnp;have hw1:IntKind.i64.wrap ((np:Int)*4)=(np:Int)*4:=aY _ om;clear evp k1 k2;go_wp2_with fail;go_quiet (fail);go_wp2;go_ret2
   exact⟨by rw[←HNP.out];simp,hbel.trans jY⟩
end
theorem RdO.below {w w':World} {v:Value} {l:List Ob} (h:RdO w v l) (k:Below w.heap.size w w'):RdO w' v l:=by
 obtain⟨q,c,h1,h2,h3,h4⟩:=h;refine⟨q,c,h1,h2,h3,fun j o hj=> ?_⟩;obtain⟨g,off,e1,e2,e3,e4⟩:=h4 j o hj;exact⟨g,off,e1,aC e2 k.size,(k.cell (p:=⟨g,off+j*2,none⟩) e2).trans e3,(k.cell (p:=⟨g,off+j*2+1,none⟩) e2).trans e4⟩
theorem Kl {base:Nat} {w:World} {v:Value} {l:List Ob} (h:w.ownsRow base 40 2 v l.length (l8 l)):RdO w v l:=by
 have ho:=h;obtain⟨_,h2⟩:=h;rcases h2 with⟨rfl,h3⟩|⟨g,cap,cur,rfl,hg,hh,hcap,hmax,_⟩
 ·have hl:l=[]:=bM.1 h3
  subst hl;exact⟨none,0,rfl,aI _,bq _,fun j o hj=>by simp at hj⟩
 ·refine⟨some ⟨g,0,none⟩,cap,rfl,hcap,hmax,fun j o hj=>⟨g,0,rfl,(ho.lt g rfl).2,?_⟩⟩
  have hlt:j<l.length:=(au.1 hj).1;obtain⟨e1,e2⟩:=vJ l j o.1 o.2 hj;rw[bK,ho.cellAt (j*2) om,ho.cellAt (j*2+1) om];exact⟨e1,e2⟩
theorem RdP.below {w w':World} {v:Value} {l:List Pl} (h:RdP w v l) (k:Below w.heap.size w w'):RdP w' v l:=by
 obtain⟨q,c,h1,h2,h3,h4⟩:=h;refine⟨q,c,h1,h2,h3,fun j o hj=> ?_⟩;obtain⟨g,off,e1,e2,e3,e4,e5⟩:=h4 j o hj;exact⟨g,off,e1,aC e2 k.size,(k.cell (p:=⟨g,off+j*3,none⟩) e2).trans e3,(k.cell (p:=⟨g,off+j*3+1,none⟩) e2).trans e4,(k.cell (p:=⟨g,off+j*3+2,none⟩) e2).trans e5⟩
theorem QH: ∀(l:List Pl) (j:Nat) (o:Pl),l[j]?=some o→(JK l)[j*3]?=some (.int .i64 o.1)∧(JK l)[j*3+1]?=some (.int .i64 o.2.1)∧(JK l)[j*3+2]?=some (.int .i64 o.2.2)
 |[],j,o,h=>by simp at h
 |a::l,0,o,h=>by simp at h;subst h;simp[JK]
 |a::l,j+1,o,h=>by
  have ih:=QH l j o (by simpa using h);have e:JK (a::l)= .int .i64 a.1:: .int .i64 a.2.1:: .int .i64 a.2.2::JK l:=by simp[JK]
  rw[e,show(j+1)*3=j*3+1+1+1 from om];simpa using ih
theorem Xw {base:Nat} {w:World} {v:Value} {l:List Pl} (h:w.ownsRow base 215 3 v l.length (JK l)):RdP w v l:=by
 have ho:=h;obtain⟨_,h2⟩:=h;rcases h2 with⟨rfl,h3⟩|⟨g,cap,cur,rfl,hg,hh,hcap,hmax,_⟩
 ·have hl:l=[]:=bM.1 h3
  subst hl;exact⟨none,0,rfl,aI _,bq _,fun j o hj=>by simp at hj⟩
 ·refine⟨some ⟨g,0,none⟩,cap,rfl,hcap,hmax,fun j o hj=>⟨g,0,rfl,(ho.lt g rfl).2,?_⟩⟩
  have hlt:j<l.length:=(au.1 hj).1;obtain⟨e1,e2,e3⟩:=QH l j o hj;rw[bK,ho.cellAt (j*3) om,ho.cellAt (j*3+1) om,ho.cellAt (j*3+2) om];exact⟨e1,e2,e3⟩
theorem Km (a k b m:Int) (w:World):(binOp .neq 40 (.agg #[.int .i64 a,.int .i64 k]) (.agg #[.int .i64 b,.int .i64 m])).run prog w= .ok (.bool (!(a==b&&k==m))) w:=by
 have u3:=bB;have a3:=gZ;have z3:=gK;have hS:prog.underlying 40=some (.struct (prog.fieldsOf 40)):=kR;have hp:prog.stoodInHeld 40=false:=kR;rw[run_neq_struct,show(10000:Nat)=9999+1 from rfl,run_equalIn_agg w 9999 40 _ _ hS hp];simp only[Program.fieldsOf,iK];go_simp
 by_cases h1:a=b<;>by_cases h2:k=m<;>simp[h1,h2]
theorem Xx (va vb:Value) (l:List Ob) (w:World) (ha:RdO w va l) (hb:RdO w vb l):
 Calls prog 102 #[va,vb] w fun e w'=>e= .returned (.bool true)∧Below w.heap.size w w':=by
 have eb:=Km;have gb:=wQ;have HA:=ah ha;have HB:=ah hb;obtain⟨q,k,rfl,k1,k2,_⟩:=ha;obtain⟨q',k',rfl,k1',k2',_⟩:=hb;obtain⟨n,hn⟩:=eY l.length;have HN:=ah hn;rw[←hn] at k1 k1' HA HB ⊢;unfold maxLen at k2 k2';clear hn;go_in
 go_wp2_with fail;go_loopw [5] (fun i wr=>∃j:Nat,j≤n∧i= .int .i64 j∧Below w.heap.size w wr) (fun i _=>n-(intOf i).toNat);case atStart=>exact⟨0,bq _,rfl,aL _ _⟩
 case round=>
  obtain⟨j,hj,rfl,hbel⟩:=hrel;by_cases hlt:j<n
  ·obtain⟨o,ho⟩: ∃o,l[j]?=some o:=⟨l[j]'(by rw[←HN.out];exact hlt),aA _⟩
   have hA:=HA.out;have hB:=HB.out;rw[HN.out] at hA hB;obtain⟨qa,ca,ea,_,_,h4⟩:=(show RdO w _ l from hA).below hbel;obtain⟨qb,cb,eb',_,_,h5⟩:=(show RdO w _ l from hB).below hbel;have ea1:=(fu ea).1;have eb1:=(fu eb').1;clear ea eb';obtain⟨g,of,eg,gl,c0,c1⟩:=h4 j o ho;obtain⟨g',of',eg',gl',c0',c1'⟩:=h5 j o ho;have e1:=ea1.trans eg;have e2:=eb1.trans eg';subst e1 e2;have hji:(j:Int)<(n:Int):=om;have hj0:(0:Int)≤(j:Int):=om;have HBL:=ah hbel;clear hA hB h4 h5 ea1 eb1 eg eg' ho hbel HA HB;go_wp2_with fail;go_quiet (fail);go_wp2;go_round
   case rel=>exact⟨j+1,om,by go_num,HBL.out.trans jY⟩
   case measure=>simp[intOf];omega
  ·go_wp2
   go_ret;exact⟨rfl,hbel⟩
theorem Xy (va vb:Value) (l:List Pl) (w:World) (ha:RdP w va l) (hb:RdP w vb l):
 Calls prog 99 #[va,vb] w fun e w'=>e= .returned (.bool true)∧Below w.heap.size w w':=by
 have eb:=neqP;have gb:=guardP;have HA:=ah ha;have HB:=ah hb;obtain⟨q,k,rfl,k1,k2,_⟩:=ha;obtain⟨q',k',rfl,k1',k2',_⟩:=hb;obtain⟨n,hn⟩:=eY l.length;have HN:=ah hn;rw[←hn] at k1 k1' HA HB ⊢;unfold maxLen at k2 k2';clear hn;go_in
 go_wp2_with fail;go_loopw [5] (fun i wr=>∃j:Nat,j≤n∧i= .int .i64 j∧Below w.heap.size w wr) (fun i _=>n-(intOf i).toNat);case atStart=>exact⟨0,bq _,rfl,aL _ _⟩
 case round=>
  obtain⟨j,hj,rfl,hbel⟩:=hrel;by_cases hlt:j<n
  ·obtain⟨o,ho⟩: ∃o,l[j]?=some o:=⟨l[j]'(by rw[←HN.out];exact hlt),aA _⟩
   have hA:=HA.out;have hB:=HB.out;rw[HN.out] at hA hB;obtain⟨qa,ca,ea,_,_,h4⟩:=(show RdP w _ l from hA).below hbel;obtain⟨qb,cb,eb',_,_,h5⟩:=(show RdP w _ l from hB).below hbel;have ea1:=(fu ea).1;have eb1:=(fu eb').1;clear ea eb';obtain⟨g,of,eg,gl,c0,c1,c2⟩:=h4 j o ho;obtain⟨g',of',eg',gl',c0',c1',c2'⟩:=h5 j o ho;have e1:=ea1.trans eg;have e2:=eb1.trans eg';subst e1 e2;have hji:(j:Int)<(n:Int):=om;have hj0:(0:Int)≤(j:Int):=om;have HBL:=ah hbel;clear hA hB h4 h5 ea1 eb1 eg eg' ho hbel HA HB;go_wp2_with fail;go_quiet (fail);go_wp2;go_round
   case rel=>exact⟨j+1,om,by go_num,HBL.out.trans jY⟩
   case measure=>simp[intOf];omega
  ·go_wp2
   go_ret;exact⟨rfl,hbel⟩
section
variable {X Y S M:List Nat} {w w':World} {B pc pz pcm pm gN e:Nat} {mn lw hi:Int} {O:List (List Int)} {v v' vs:Value} {A A' As:SA} {C:List Sl} {c:Ca} {L':List Nd}
theorem XA (h:RC X w pcm pm gN e mn lw hi O M v A c) (hI:uR e c):
 Calls prog 101 #[v] w fun r w'=>∃q k,r= .returned (.slice q c.C.length k)∧w'.ownsRow w.heap.size 215 3 (.slice q c.C.length k) c.C.length (JK (qU c.C))∧Below w.heap.size w w':=by
 obtain⟨qv,kv,evs,kv1,kv2,hrow⟩:=h.b.form;subst evs;have few:=hI.few;have D6:=ah hrow;have HC:=ah h.b;have ALL:Hid (c.C.take c.C.length=c.C):=by show _=_;simp
 obtain⟨nn,hnn⟩:=eY c.C.length;have EN:=ah hnn;rw[←hnn] at few kv1 ALL ⊢;unfold maxLen at kv2;clear h hI hrow hnn;go_in
 go_wp2_with fail;go_loopw [3,4] (fun ov iv wr=>∃(i:Nat) (q:Option Addr) (k:Nat),i≤nn∧iv= .int .i64 i∧ov= .slice q i k∧Hid (wr.ownsRow w.heap.size 215 3 (.slice q i k) i (JK (qU (c.C.take i))))∧Below w.heap.size w wr) (fun _ iv _=>nn-(intOf iv).toNat);case atStart=>exact⟨0,none,0,om,by go_num,rfl,aT _ _ _ _,aL _ _⟩
 case round=>
  obtain⟨i,q,k,hile,rfl,rfl,HO,hbel⟩:=hrel;by_cases hin:i<nn
  ·obtain⟨s,hs⟩: ∃s,c.C[i]?=some s:=⟨c.C[i]'(by rw[←EN.out];exact hin),aA _⟩
   obtain⟨p,hp,hsl0⟩:=HC.out.at hs;have hsl:=hsl0.below hbel;obtain⟨g,of,rfl,hg,hc0⟩:=D6.out i p hp;have ck:wr.cell? ⟨g,of+i,none⟩=some (.pointer (some ⟨p.1,0,none⟩)):=(hbel.cell (p:=⟨g,of+i,none⟩) hg).trans hc0;have gl:g<wr.heap.size:=aC hg hbel.size;have hik:i<kv:=om;obtain⟨d0,d1,d2,d3,dl,dl2⟩:=hsl.cells;have SN:=ah (CJ hs);have HB:=ah hbel;have hji:(i:Int)<(nn:Int):=om;have hj0:(0:Int)≤(i:Int):=om;clear hc0 hsl hsl0 hs hp;go_wp2_with (first|(at_builtin;refine CG elPl (base:=w.heap.size) (v:=.slice q i k) (n:=i) (ms:=[.int .i64 s.nd,.int .i64 s.pg,.int .i64 0]) rf (.tmp 11) (.tmp 19) rf rf rf (HO.out.alloc _) rfl (Co _ _ _ _ _) (by intro u hu;simp at hu;rcases hu with rfl|rfl|rfl<;>rfl) om (by have:=HB.out.size;simp;omega) ?_;intro q4 k4 w4 kV hg4));have hb4:Below w.heap.size w w4:=(HB.out.alloc (by have:=HB.out.size;simpa using this) _).grown hg4 (by have:=HB.out.size;simp;omega) (fun r hr=>(HO.out.lt r hr).1);have HO4:=ah kV;clear kV hg4;go_wp2;go_round
   case rel=>exact⟨i+1,q4,k4,om,by go_num,rfl,(show World.ownsRow _ _ _ _ _ _ _ by rw[SN.out,IV];exact HO4.out),hb4⟩
   case measure=>simp[intOf];omega
  ·obtain rfl:i=nn:=by omega
   have HO':=HO.out;rw[ALL.out] at HO';have HOO:=ah HO';clear HO HO';go_wp2;go_ret;exact⟨_,_,rfl,HOO.out,hbel⟩
theorem csize_ok (h:CS B w pc pz mn lw hi O e X vs As c):Calls prog 104 #[.pointer (some ⟨pc,0,none⟩)] w fun r w'=>r= .returned (.int .i64 e)∧w'=w:=by
 have c1:=h.ch.c.gC 1;have cl:=h.ch.c.lt;clear h;go_in
 go_wp2;go_ret;exact⟨rfl,rfl⟩
theorem U6 (h:CS B w pc pz mn lw hi O e X vs As c) (hr:RC Y w pcm pm gN e mn lw hi O M v A c) (hI:uR e c):
 Calls prog 56 #[.pointer (some ⟨pc,0,none⟩),.pointer (some ⟨pcm,0,none⟩)] w fun r w'=>r= .returned (.int .i64 1)∧Below w.heap.size w w':=by
 have HC:=ah h;have HR:=ah hr;have HI:=ah hI;have e1:=hI.e1;have e2:=hI.e2;have few:=hI.few;have ofew:=oU hI;have TO:=ah (Ig hr hI);obtain⟨q0,k0,ev,kv1,kv2,_⟩:=hr.b.form;subst ev;have LT:Hid ((qj e c.C).length=tq c.C):=Ev e c.C;have LR:Hid (yK c.C=c.C.length*kL e):=FH _ _ _ fun s hs=>hI.len s hs
 have r64:kL e≤64:=by unfold kL;exact dW _ _
 have LP:Hid ((qU c.C).length=c.C.length):=U5 c.C;clear h hr hI;go_in
 go_wp2_with fail;refine TO.out.mono ?_;rintro r w1 ⟨v5,rfl,hown,hb1⟩;obtain⟨q5,k5,ev5,k51,k52,_⟩:=Kl hown;subst ev5;have HO1:=ah (Kl hown);have HB1:=ah hb1;have z1:=hb1.size;have CO:=ah (count_ok (HC.out.below hb1) HI.out);clear TO hown hb1;go_wp2_with fail;refine CO.out.mono ?_;rintro r w2 ⟨rfl,hb2⟩;have B2:=ah (HB1.out.trans (hb2.mono z1));have z2:=hb2.size;have HO2:=ah (HO1.out.below hb2);have C2:=ah (HC.out.below B2.out);have R2:=ah (HR.out.below B2.out);obtain⟨n,hn⟩:=eY c.C.length;have HN:=ah hn;obtain⟨t,ht⟩:=eY (tq c.C);have lt:=LT.out;rw[←ht] at lt ⊢;rw[lt] at k51 ⊢;obtain⟨rm,hrm⟩:=eY (n*kL e);have hrn:yK c.C=rm:=by rw[hrm,hn];exact LR.out
 rw[hrn];have hrm1:rm≤65536:=by
  have:=eP (show n≤1024 by omega) r64;omega
 have hmul:IntKind.i64.wrap ((n:Int)*((kL e:Nat):Int))=(rm:Int):=by
  have:(n:Int)*((kL e:Nat):Int)=(rm:Int):=by rw[hrm];simp
  rw[this];exact aY _ om
 have en0: ¬((e:Int)=0):=om;have en1: ¬(e=0):=om;have hq0:(64:Int) / (e:Int)=(kL e:Int):=by unfold kL;rw[Int.natCast_ediv];rfl
 have hq:(64:Int).tdiv (e:Int)=(kL e:Int):=by rw[fI om];exact hq0
 have hwr:IntKind.i64.wrap ((kL e:Nat):Int)=(kL e:Int):=aY _ om;have EVO:Hid (Value.slice q5 (qj e c.C).length k5= .slice q5 t k5):=by show _=_;rw[lt]
 have D0:Hid (∀W,Below w2.heap.size w2 W→W.cell? ⟨pcm,1,none⟩=some (.int .i64 e)):=fun W b=>(R2.out.below b).b.c.gC 1
 have D1:Hid (∀W,Below w2.heap.size w2 W→W.cell? ⟨pcm,2,none⟩=some (.slice q0 n k0)):=fun W b=>by rw[hn];exact(R2.out.below b).b.c.gC 2
 have SL:Hid (∀W,Below w2.heap.size w2 W→Calls prog 100 #[.pointer (some ⟨pc,0,none⟩)] W fun r w'=>∃q k,r= .returned (.slice q n k)∧RdP w' (.slice q n k) (qU c.C)∧Below W.heap.size W w'):=fun W b=>(Xv (C2.out.below b) HI.out).mono fun r w' ⟨q,k,h1,h2,h3⟩=>⟨q,k,by rw[hn];exact h1,by rw[hn];rw[←LP.out] at h2 ⊢;exact Xw h2,h3⟩
 have PL:Hid (∀W,Below w2.heap.size w2 W→Calls prog 101 #[.slice q0 n k0] W fun r w'=>∃q k,r= .returned (.slice q n k)∧RdP w' (.slice q n k) (qU c.C)∧Below W.heap.size W w'):=fun W b=>by
  have:=XA (R2.out.below b) HI.out;rw[hn];exact this.mono fun r w' ⟨q,k,h1,h2,h3⟩=>⟨q,k,h1,by rw[←LP.out] at h2 ⊢;exact Xw h2,h3⟩
 have SP:Hid (∀(W:World) (qa qb:Option Addr) (ka kb:Nat),RdP W (.slice qa n ka) (qU c.C)→RdP W (.slice qb n kb) (qU c.C)→Calls prog 99 #[.slice qa n ka,.slice qb n kb] W fun e w'=>e= .returned (.bool true)∧Below W.heap.size W w'):=fun W qa qb ka kb h1 h2=>Xy _ _ _ W h1 h2
 have TK:Hid (∀W,Below w2.heap.size w2 W→Calls prog 103 #[.pointer (some ⟨pc,0,none⟩)] W fun r w'=>∃q k,r= .returned (.slice q t k)∧RdO w' (.slice q t k) (qj e c.C)∧Below W.heap.size W w'):=fun W b=>(Xu (C2.out.below b) HI.out).mono fun r w' ⟨vv,h1,h2,h3⟩=>by
  have h4:=Kl h2;obtain⟨q,k,h5,_⟩:=id h4;rw[lt] at h5;subst h5;exact⟨q,k,h1,h4,h3⟩
 have SO:Hid (∀(W:World) (qa:Option Addr) (ka:Nat),RdO W (.slice qa t ka) (qj e c.C)→Below w2.heap.size w2 W→Calls prog 102 #[.slice qa t ka,.slice q5 t k5] W fun e w'=>e= .returned (.bool true)∧Below W.heap.size W w'):=fun W qa ka h1 b=>Xx _ _ _ W h1 (by rw[←EVO.out];exact HO2.out.below b)
 have SZ:Hid (∀W,Below w2.heap.size w2 W→Calls prog 104 #[.pointer (some ⟨pc,0,none⟩)] W fun r w'=>r= .returned (.int .i64 e)∧w'=W):=fun W b=>csize_ok (C2.out.below b)
 have x0:=D0.out _ (aL _ _);have x1:=D1.out _ (aL _ _);have PL0:Hid (pcm<w2.heap.size):=R2.out.b.c.lt;have pl0:=PL0.out;unfold maxLen at kv2 k52;clear HO1 HC HR HB1 CO hb2 hn ht lt hrm hrn LT LR kv1;go_wp2_with fail;go_region_held3 (fun w'=>w'.cell? ⟨pcm,1,none⟩=some (.int .i64 e)∧w'.cell? ⟨pcm,2,none⟩=some (.slice q0 n k0)) (go_keep) (first
  |(go_at_call 100;refine(SL.out _ jY).mono ?_;rintro e' wa ⟨qa,ka,rfl,hra,hba⟩;have cba:Below w2.heap.size w2 wa:=(show Below w2.heap.size w2 _ from jY).trans (hba.mono sI);have xa0:=D0.out _ cba;have xa1:=D1.out _ cba)
  |(go_at_call 101;refine(PL.out _ cba).mono ?_;rintro e' wb ⟨qb,kb,rfl,hrb,hbb⟩;have cbb:Below w2.heap.size w2 wb:=cba.trans (hbb.mono cba.size);have xb0:=D0.out _ cbb;have xb1:=D1.out _ cbb)
  |(go_at_call 99;refine(SP.out _ _ _ _ _ (hra.below hbb) hrb).mono ?_;rintro e' wc ⟨rfl,hbc⟩;have cbc:Below w2.heap.size w2 wc:=cbb.trans (hbc.mono cbb.size);have xc0:=D0.out _ cbc;have xc1:=D1.out _ cbc)
  |(go_at_call 103;refine(TK.out _ cbc).mono ?_;rintro e' wd ⟨qd,kd,rfl,hrd,hbd⟩;have cbd:Below w2.heap.size w2 wd:=cbc.trans (hbd.mono cbc.size);have xd0:=D0.out _ cbd;have xd1:=D1.out _ cbd)
  |(go_at_call 102;refine(SO.out _ _ _ hrd cbd).mono ?_;rintro e' we ⟨rfl,hbe⟩;have cbe:Below w2.heap.size w2 we:=cbd.trans (hbe.mono cbd.size);have xe0:=D0.out _ cbe;have xe1:=D1.out _ cbe)
  |(go_at_call 104;refine(SZ.out _ cbe).mono ?_;rintro e' wf ⟨rfl,rfl⟩))
 all_goals
  have KE:Below w.heap.size w _:=B2.out.trans (cbe.mono (by have:=B2.out.size;omega));go_wp2;go_ret;exact⟨sI,KE⟩
end
section
variable {X Y S M M' F G:List Nat} {w w' w0:World} {ev:Nat→Addr} {pc pz pcm pm gN e:Nat} {mn lw hi:Int} {O:List (List Int)} {v v' vs vs':Value} {A A' As As':SA} {c c' d d':Ca} {L':List Nd}
theorem takeZ_le (mn:Int) (O:List (List Int)) (L:List Nd) (v k:Int) (u:Bool):(lQ mn O L v k u).2.1≤10:=by
 unfold lQ;split
 ·simp
 split
 ·rcases PZ k L with q|q<;>simp[q]
 split
 ·simp
 split<;>simp
theorem U7 (j:Int) (u:Bool):(takeC mn O e c j u).2.1≤10:=by
 unfold takeC;split
 ·simp
 split
 ·split<;>simp
 ·split
  ·simp
  ·exact takeZ_le mn O c.L j 0 u
end
section
variable {X Y Z S M M' F F' G:List Nat} {B:Nat} {w w' w0 w1:World} {ev:Nat→Addr} {pd pc pz gh pdm ghm pcm pm gN e:Nat} {mn lw hi:Int} {O:List (List Int)} {v v' vp vp':Value} {A A':SA} {V V':HV} {U U':List Value} {d d' m m':De}
theorem DZX.bel (h:DZX w0 X F pd pc pz gh pdm ghm pcm pm gN e mn lw hi O d m w):Below w0.heap.size w0 w:=by
 obtain⟨M,v,A,V,vp,U,q⟩:=h;exact q.s.bel
theorem DZX.lim (h:DZX w0 X F pd pc pz gh pdm ghm pcm pm gN e mn lw hi O d m w): ∀x∈X,w0.heap.size≤x∧x<w.heap.size:=by
 obtain⟨M,v,A,V,vp,U,q⟩:=h;exact q.s.lim
theorem DZX.ord (h:DZX w0 X F pd pc pz gh pdm ghm pcm pm gN e mn lw hi O d m w):rM O d.c.L.length:=by
 obtain⟨M,v,A,V,vp,U,q⟩:=h;exact q.s.ord
theorem DZX.go (h:DZX w0 X F pd pc pz gh pdm ghm pcm pm gN e mn lw hi O d m w) (k:Below w.heap.size w w'):DZX w0 X F pd pc pz gh pdm ghm pcm pm gN e mn lw hi O d m w':=by
 obtain⟨M,v,A,V,vp,U,q⟩:=h;exact⟨M,v,A,V,vp,U,q.s.go q.s.bel.size k,q.r.below k,q.f⟩
theorem DZS.prog (h:DZS w0 X F pd pc pz gh pdm ghm pcm pm gN e mn lw hi O M v A V vp U d m w) (hs:DpS w0.heap.size w0 pd pc pz gh mn lw hi O e Y (rds pdm ghm pcm pm gN A M++F) d' w') (k:Keep (off X (rds pdm ghm pcm pm gN A M++F)) w w') (h1: ∀x∈Y,x∈X∨w.heap.size≤x) (h2: ∀x∈X,x∈Y):
 DZS w0 Y F pd pc pz gh pdm ghm pcm pm gN e mn lw hi O M v A V vp U d' m w':=
 ⟨hs,(h.r.more h2 h1).keep k (fun s q=>.inl ⟨h2 s (jW.1 q).1,fun t=>(jW.1 q).2 (av _ t)⟩),h.f⟩
theorem DZX.other (h:DZX w0 X F pd pc pz gh pdm ghm pcm pm gN e mn lw hi O d m w) (k:Keep S w w') (hs: ∀s∈S,s∈F):DZX w0 X F pd pc pz gh pdm ghm pcm pm gN e mn lw hi O d m w':=by
 obtain⟨M,v,A,V,vp,U,q⟩:=h;exact⟨M,v,A,V,vp,U,q.s.other q.s.bel.size k (fun s t=>aj _ (hs s t)),q.r.keep k (fun s t=>.inl ⟨q.s.sU s (aj _ (hs s t)),q.f s (hs s t)⟩),q.f⟩
theorem DZX.uS (h:DZX w0 X F pd pc pz gh pdm ghm pcm pm gN e mn lw hi O d m w) (k:Keep S w w') (hs: ∀s∈S,s∈F) (hG: ∀g∈G,w.heap.size≤g∧g<w'.heap.size):DZX w0 (G++X) (G++F) pd pc pz gh pdm ghm pcm pm gN e mn lw hi O d m w':=by
 obtain⟨M,v,A,V,vp,U,q⟩:=h;have n1: ∀y∈G++X,y∈X∨w.heap.size≤y:=fun y hy=>by
  rcases aD.1 hy with r|r
  ·exact .inr (hG y r).1
  ·exact .inl r
 refine⟨M,v,A,V,vp,U,q.s.addZ q.s.bel.size k (fun s t=>aj _ (hs s t)) (fun x t=>aj _ t) (fun y t=>⟨n1 y t,?_⟩) (fun f t=> ?_),(q.r.more (fun x t=>aj _ t) n1).keep k (fun s t=>.inl ⟨aj _ (q.s.sU s (aj _ (hs s t))),q.f s (hs s t)⟩),fun f t r=> ?_⟩
 ·rcases aD.1 t with r|r
  ·exact(hG y r).2
  ·exact aC (q.s.lim y r).2 k.size
 ·rcases aD.1 t with r|r
  ·exact⟨.inl (av _ r),aj _ (q.r.mem f r)⟩
  ·rcases aD.1 r with r|r
   ·exact⟨.inr (hG f r).1,av _ r⟩
   ·exact⟨.inl (aj _ r),aj _ (q.s.sU f (aj _ r))⟩
 ·rcases aD.1 t with s|s
  ·have:=(hG f s).1;have:=q.r.lt f r;omega
  ·exact q.f f s r
theorem DZX.wB (h:DZX w0 X F pd pc pz gh pdm ghm pcm pm gN e mn lw hi O d m w) (hG: ∀g∈G,g∈F):DZX w0 X G pd pc pz gh pdm ghm pcm pm gN e mn lw hi O d m w:=by
 obtain⟨M,v,A,V,vp,U,q⟩:=h;refine⟨M,v,A,V,vp,U,q.s.wB (fun g t=> ?_),q.r,fun f t=>q.f f (hG f t)⟩;rcases aD.1 t with r|r
 ·exact av _ r
 ·exact aj _ (hG g r)
theorem DZX.sU (h:DZX w0 X F pd pc pz gh pdm ghm pcm pm gN e mn lw hi O d m w): ∀f∈F,f∈X:=by
 obtain⟨M,v,A,V,vp,U,q⟩:=h;exact fun f t=>q.s.sU f (aj _ t)
theorem DZS.offp (h:DZS w0 X F pd pc pz gh pdm ghm pcm pm gN e mn lw hi O M v A V vp U d m w): ∀s∈off X (rds pdm ghm pcm pm gN A M++F),s∈off X F:=fun s q=>jW.2 ⟨(jW.1 q).1,fun t=>(jW.1 q).2 (aj _ t)⟩
theorem dz_take (k n:Int) (u:Bool) (hE:Je w0.heap.size ev w0) (h:DZX w0 X F pd pc pz gh pdm ghm pcm pm gN e mn lw hi O d m w):
 Calls prog 23 #[.pointer (some ⟨pd,0,none⟩),.int .i64 k,.int .i64 n,.bool u] w (DZPost w0 X F pd pc pz gh pdm ghm pcm pm gN e mn lw hi O (takeD mn O e d k n u).1 m w (.tuple #[obV (takeD mn O e d k n u).2.2,kM ev (takeD mn O e d k n u).2.1])):=by
 obtain⟨M,v,A,V,vp,U,q⟩:=h;exact(VX k n u hE q.s).mono fun r w' ⟨hr,kk,X',h1,h2,h3⟩=>⟨hr,X',⟨M,v,A,V,vp,U,q.prog h3 kk h1 h2⟩,kk.mono q.offp,h1,h2⟩
theorem dz_give (k:Int) (o:Ob) (hE:Je w0.heap.size ev w0) (h:DZX w0 X F pd pc pz gh pdm ghm pcm pm gN e mn lw hi O d m w) (o1: -9223372036854775808≤o.2) (o2:o.2≤9223372036854775807):
 Calls prog 50 #[.pointer (some ⟨pd,0,none⟩),.int .i64 k,.agg #[.int .i64 o.1,.int .i64 o.2]] w (DZPost w0 X F pd pc pz gh pdm ghm pcm pm gN e mn lw hi O (lI e d k o).1 m w (kM ev (lI e d k o).2)):=by
 obtain⟨M,v,A,V,vp,U,q⟩:=h;exact(VY k o hE q.s o1 o2).mono fun r w' ⟨hr,kk,X',h1,h2,h3⟩=>⟨hr,X',⟨M,v,A,V,vp,U,q.prog h3 kk h1 h2⟩,kk.mono q.offp,h1,h2⟩
end
section
variable {X Y S M M' F G:List Nat} {w w' w0:World} {ev:Nat→Addr} {pd gh pc pm gN e:Nat} {mn lw hi:Int} {O:List (List Int)} {v v' vp vp':Value} {A A':SA} {V V':HV} {U U':List Value} {d d':De} {c c':Ca}
theorem rheld_ok (h:RD X w pd gh pc pm gN e mn lw hi O M v A V vp U d) (hI:pU e d):
 Calls prog 54 #[.pointer (some ⟨pd,0,none⟩)] w fun r w'=>r= .returned (.tuple #[.int .i64 (tJ d.H),.int .i64 ((d.P.length*4:Nat):Int)])∧Below w.heap.size w w':=by
 have few:tJ d.H≤65536:=by
  have h1:=(o9 hI).2;have h2:=oU hI.c;have h3:(held d).length=(mQ d.H).length+d.P.flatten.length:=by unfold held;rw[aW]
  rw[CK];omega
 have pl:d.P.length≤65536:=by have:=(o9 hI).1;have:=oU hI.c;omega
 have hH4:=hI.hl;obtain⟨qp,kp,evp,kp1,kp2,_⟩:=h.pile;subst evp;have c1:=h.b.d.gC 1;have c2:=h.b.d.gC 2;have cl:=h.b.d.lt;have HH:=ah h;have HIN:=ah hI;have HALL:Hid (tJ (d.H.take d.H.length)=tJ d.H):=by show _=_;rw[bU]
 have HLE:Hid (∀i,tJ (d.H.take i)≤65536):=fun i=>by have:=xQ d.H i;rw[←CK,←CK] at this;omega
 have HSN:Hid (∀(i:Nat) (g:Hd),d.H[i]?=some g→tJ (d.H.take (i+1))=tJ (d.H.take i)+(g.1.length+g.2.length)):=fun i g hg=>zU hg
 obtain⟨n,hn⟩:=eY d.H.length;obtain⟨np,hnp⟩: ∃n,n=d.P.length:=⟨_,rfl⟩;have EN:=ah hn;rw[←hn] at c1 hH4 HALL;rw[←hnp] at c2 pl kp1 ⊢;unfold maxLen at kp2;clear h hI hn hnp;go_in
 go_wp2_with fail;go_loopw [4,5] (fun nv iv wr=>∃i:Nat,i≤n∧nv= .int .i64 (tJ (d.H.take i):Nat)∧iv= .int .i64 i∧Below w.heap.size w wr) (fun _ iv _=>n-(intOf iv).toNat);case atStart=>exact⟨0,bq _,by simp[tJ],by go_num,aL _ _⟩
 case round=>
  obtain⟨i,hin,rfl,rfl,hb⟩:=hrel;have zr:=hb.size;have c1r:=(hb.cell (p:=⟨pd,1,none⟩) cl).trans c1;have c2r:=(hb.cell (p:=⟨pd,2,none⟩) cl).trans c2;have clr:pd<wr.heap.size:=om;by_cases hlt:i<n
  ·obtain⟨g,hg⟩: ∃g,d.H[i]?=some g:=⟨d.H[i]'(by rw[←EN.out];exact hlt),aA _⟩
   obtain⟨⟨pa,pb⟩,hp,r1,r2,g0,g1,_,_,gl⟩:=(HH.out.below hb).hand hg;obtain⟨qa,ca,e1,_⟩:=r1.isSlice;obtain⟨qb,cb,e2,_⟩:=r2.isSlice;simp only at e1 e2 g0 g1;subst e1 e2;have l4:=HIN.out.h4 g (aF hg);have s1:=HSN.out i g hg;have b1:=HLE.out i;have b2:=HLE.out (i+1);have i0:(0:Int)≤(i:Int):=om;have i1:(i:Int)<(n:Int):=om;obtain⟨na,hna⟩: ∃n,n=g.1.length:=⟨_,rfl⟩;obtain⟨nb,hnb⟩: ∃n,n=g.2.length:=⟨_,rfl⟩;rw[←hna] at g0 s1 l4;rw[←hnb] at g1 s1 l4;obtain⟨a,ha⟩:=eY (tJ (d.H.take i));rw[←ha] at s1 b1 ⊢;have hw1:IntKind.i64.wrap ((a:Int)+(na:Int))=(a:Int)+(na:Int):=aY _ om;have hw2:IntKind.i64.wrap ((a:Int)+(na:Int)+(nb:Int))=((a+(na+nb):Nat):Int):=by rw[aY _ om];omega
   have HS1:=ah s1;have HB:=ah hb;clear r1 r2 hp hg hna hnb ha s1 c2r hb;go_wp2_with fail;go_quiet (fail);go_wp2;go_round
   case rel=>exact⟨i+1,om,by rw[HS1.out];simp,by go_num,HB.out.trans (iO jY zr)⟩
   case measure=>simp[intOf];omega
  ·obtain rfl:i=n:=by omega
   rw[HALL.out];have HB:=ah hb;obtain⟨a,ha⟩:=eY (tJ d.H);have HAA:=ah ha;rw[←ha];have hw1:IntKind.i64.wrap ((np:Int)*4)=((np*4:Nat):Int):=by rw[aY _ om];omega
   clear ha HALL hb;go_wp2_with fail;go_quiet (fail);go_wp2;go_ret2
   exact⟨by rw[←HAA.out];simp,HB.out.trans (iO jY zr)⟩
end
section
variable {X Y S M M' F G:List Nat} {B:Nat} {w w' w0:World} {ev:Nat→Addr} {pd pc pz gh pdm ghm pcm pm gN e:Nat} {mn lw hi:Int} {O:List (List Int)} {v v' vp vp':Value} {A A':SA} {V V':HV} {U U':List Value} {d d' m:De} {c c':Ca} {L:List Nd}
theorem XB {U:List Value} {A:SA} {V:HV} {v vp:Value} {B:Nat} (h:CD B w X pd pc pz gh mn lw hi O e v A V vp U d):
 Calls prog 55 #[.pointer (some ⟨pd,0,none⟩)] w fun r w'=>r= .returned (.pointer (some ⟨pc,0,none⟩))∧w'=w:=by
 have c0:=h.de.d.gC 0;have cl:=h.de.d.lt;clear h;go_in
 go_wp2;go_ret;exact⟨rfl,rfl⟩
theorem CQ (hs:DpS w0.heap.size w0 pd pc pz gh mn lw hi O e X F d w) (hr:RD Y w pdm ghm pcm pm gN e mn lw hi O M v A V vp U d):
 Calls prog 12 #[.pointer (some ⟨pd,0,none⟩),.pointer (some ⟨pdm,0,none⟩)] w fun r w'=>r= .returned (.int .i64 1)∧Below w.heap.size w w':=by
 have HI:=hs.inv;obtain⟨v1,A1,V1,vp1,U1,q,hf⟩:=hs.cd;have HQ:=ah q;have H1:=ah (dheld_ok q HI);have H2:Hid (∀W,Below w.heap.size w W→Calls prog 54 #[.pointer (some ⟨pdm,0,none⟩)] W fun r w'=>r= .returned (.tuple #[.int .i64 (tJ d.H),.int .i64 ((d.P.length*4:Nat):Int)])∧Below W.heap.size W w'):=fun W b=>rheld_ok (hr.below b) HI
 have H3:Hid (∀W,Below w.heap.size w W→Calls prog 55 #[.pointer (some ⟨pd,0,none⟩)] W fun r w'=>r= .returned (.pointer (some ⟨pc,0,none⟩))∧w'=W):=fun W b=>XB (q.below b)
 have H4:Hid (∀W,Below w.heap.size w W→Calls prog 56 #[.pointer (some ⟨pc,0,none⟩),.pointer (some ⟨pcm,0,none⟩)] W fun r w'=>r= .returned (.int .i64 1)∧Below W.heap.size W w'):=fun W b=>U6 (q.below b).cs (hr.below b).c HI.c
 have c0:=hr.b.d.gC 0;have cl:=hr.b.d.lt;obtain⟨a,ha⟩:=eY (tJ d.H);obtain⟨b,hb⟩:=eY (d.P.length*4);rw[←ha,←hb] at H1 H2;clear hs hr HI q hf ha hb;go_in
 go_wp2_with fail;refine H1.out.mono ?_;rintro r w1 ⟨rfl,hb1⟩;have B1:=ah hb1;clear H1 hb1;go_wp2_with fail;refine(H2.out _ B1.out).mono ?_;rintro r w2 ⟨rfl,hb2⟩;have B2:=ah (B1.out.trans (hb2.mono B1.out.size));clear H2 hb2;go_wp2_with fail;refine(H3.out _ B2.out).mono ?_;rintro r w3 ⟨rfl,rfl⟩;have c0':=(B2.out.cell (p:=⟨pdm,0,none⟩) cl).trans c0;have cl':pdm<w3.heap.size:=by have:=B2.out.size;omega
 clear H3;go_wp2_with fail;refine(H4.out _ B2.out).mono ?_;rintro r w4 ⟨rfl,hb4⟩;go_wp2;go_ret;exact⟨rfl,B2.out.trans (hb4.mono B2.out.size)⟩
end
section
variable {X Y S M M' F G:List Nat} {w w' w0:World} {ev:Nat→Addr} {pd pc pz gh pdm ghm pcm pm gN e:Nat} {mn lw hi:Int} {O:List (List Int)} {v v' vp vp':Value} {A A':SA} {V V':HV} {U U':List Value} {d d' m:De}
theorem F6 (k n:Int) (u:Bool):(takeD mn O e d k n u).2.1≤10:=by
 cases hh:p8 d k with
 |none=>rw[uY hh];simp
 |some g=>
  cases hl:(ni g d.P).1.1.getLast? with
  |some o=>rw[nI hh hl];simp
  |none=>rw[o8 hh hl];exact U7 n u
end
section
variable {mn:Int} {O:List (List Int)} {e:Nat} {p:Po} {k v t:Int} {o:Ob} {d:De}
theorem CW: ∀{R:List Ob} {d:De} {l:List Ob},pU e d→MoI e l d→0<d.H.length→R.Nodup→(∀x∈R,x∈l)→pU e (mF e d R)∧(mF e d R).H.length=d.H.length∧(mF e d R).c=d.c∧∃l',MoI e l' (mF e d R)∧∀x,x∈l'↔x∈l∧x∉R
 |[],d,l,hI,hm,h0,hn,hs=>⟨hI,rfl,rfl,l,hm,fun x=>sI⟩
 |o::R,d,l,hI,hm,h0,hn,hs=>by
  obtain⟨n1,n2⟩:=aS.1 hn;obtain⟨i,hi,hx⟩:=iP.1 (hs o (aG ..));have hio:=au.2 ⟨hi,hx⟩;have hg:=hm.give (k:=0) (yx (bZ _) om) hio;have hc:=Ga hm.nd hio;have eh:(lI e d 0 o).1.H.length=d.H.length:=Cn;have ec:(lI e d 0 o).1.c=d.c:=by
   unfold lI;split
   ·rfl
   ·split<;>rfl
  obtain⟨q1,q2,q3,l',q4,q5⟩:=CW (R:=R) (yO hI) hg om n2 (fun x hx'=>(hc x).2 ⟨hs x (ak _ hx'),fun q=>n1 (q▸hx')⟩);refine⟨q1,q2.trans eh,q3.trans ec,l',q4,fun x=> ?_⟩;rw[q5,hc];simp;constructor
  ·rintro⟨⟨a,b⟩,c⟩;exact⟨a,b,c⟩
  ·rintro⟨a,b,c⟩;exact⟨⟨a,b⟩,c⟩
theorem nX.close (h:nX e p):nX e (wh e p).1:=by
 unfold wh;split
 ·exact h
 split
 ·exact h
 ·rename_i h0
  have t0:p.T=[]:=bM.1 om;have g0:p.G=[]:=bM.1 om;obtain⟨l,hm,hs⟩:=h.mo;have nd:=h.nd;have hl:=h.inv.hl;obtain⟨q1,_,_,l',q4,_⟩:=CW (R:=p.R) h.inv hm om (bF.1 nd).1 (fun x hx=>hs x (av _ hx));exact⟨q1,⟨l',q4,fun x hx=>by simp[Po.obs,t0,g0] at hx⟩,by simp[Po.obs,t0,g0],h.m1,bq _,h.w,h.asc,h.wl,h.gn,h.gl,h.wg,h.l0⟩
end
section
open Go.RowKit Go.Lib
theorem xk {X:List Nat} (v:Value) (xs:List Int) (x:Int) (w:World) (h:nO X w v (ints xs)) (hl:xs.length≤60000):
 Calls prog 69 #[v,.int .i64 x] w fun e w'=>e= .returned (.bool (decide (x∈xs)))∧w'=w:=by
 have IX:=ah (yY v xs x w h hl);obtain⟨p,cap,rfl,_,_,_⟩:=h.form;obtain⟨r,hr⟩:=eY (EG xs x);have hd:decide (0≤r)=decide (x∈xs):=by
  rw[hr];unfold EG;cases hi:JZ xs x with
  |none=>have:=qZ.1 hi;simp[this]
  |some i=>have:=aF (sJ hi).1;simp[this]
 rw[←hr] at IX;rw[←hd];clear h hr hd;go_in
 go_wp2_with fail;refine IX.out.mono ?_;rintro e w1 ⟨rfl,rfl⟩;go_wp2;go_ret;exact⟨rfl,rfl⟩
end
section
variable {pd pc pz e:Nat} {mn:Int} {O:List (List Int)} {ev:Nat→Addr} {w0:World} {E:sG pd pc pz e mn O ev w0} {X F:List Nat} {w:World} {pp:Nat} {p:Po}
theorem yC (h:PoX E X F pp p w):
 Calls prog 25 #[.pointer (some ⟨pp,0,none⟩)] w fun r w'=>r= .returned (.int .i64 p.R.length)∧w'=w:=by
 obtain⟨⟨bt,bg,vr,vw,q⟩,hi⟩:=h;have c2:=q.b.c.gC 2;have cl:=q.b.c.lt;obtain⟨qr,kr,rfl,_,_⟩:=q.b.r.isSlice;obtain⟨n,hn⟩:=eY p.R.length;rw[←hn] at c2 ⊢;clear q hi hn;go_in
 go_wp2;go_ret;exact⟨rfl,rfl⟩
end
section
variable {pd pc pz e:Nat} {mn:Int} {O:List (List Int)} {ev:Nat→Addr} {w0:World} {E:sG pd pc pz e mn O ev w0} {X F:List Nat} {w:World} {pp:Nat} {p:Po}
theorem PoX.inv (h:PoX E X F pp p w):nX e p:=h.2
end
section
variable {pd pc pz e:Nat} {mn:Int} {O:List (List Int)} {ev:Nat→Addr} {w0:World} {E:sG pd pc pz e mn O ev w0} {X F:List Nat} {w w1 w':World} {pp bt bg:Nat} {vr vw:Value} {p p':Po}
theorem PoT.wr (h:PoT E X F pp bt bg vr vw p w) (k:Keep [pp] w w') (hc:jR w' pp (kS pd bt bg vr vw p')) (hd:p'.d=p.d) (hR:p'.R=p.R) (hT:p'.T=p.T) (hW:p'.W=p.W) (hG:p'.G=p.G):PoT E X F pp bt bg vr vw p' w':=by
 obtain⟨m1,m2,m3,m4,m5,m6⟩:=h.b.ne;refine⟨?_,⟨hc,?_,?_,?_,?_,h.b.nd,fun y hy=>⟨(h.b.lim y hy).1,aC (h.b.lim y hy).2 k.size⟩⟩,h.f⟩
 ·rw[hd];exact E.other h.s k fun g q=>by simp at q;subst q;exact av _ nK
 ·rw[hR];exact h.b.r.keep k fun s q=>by simp at q;subst q;exact .inl (h.inX _ nK)
 ·rw[hT];exact h.b.t.keep k (by simp;exact fun r=>m1 r.symm)
 ·rw[hW];exact jQ h.b.ow k fun s q r=>by simp at q;subst q;exact m4 r
 ·rw[hG];exact h.b.g.keep k (by simp;exact fun r=>m2 r.symm)
theorem pclose_A (h:PoX E X F pp p w) (hc:p.cl=true):
 Calls prog 21 #[.pointer (some ⟨pp,0,none⟩)] w (EPost (kQ E pp).S X F p w (kM ev 4)):=by
 have e4:kM ev 4= .iface 336 (.pointer (some (ev 4))):=rfl;rw[e4];have FIN:Hid (EPost (kQ E pp).S X F p w (.iface 336 (.pointer (some (ev 4)))) (.returned (.iface 336 (.pointer (some (ev 4))))) w):=⟨rfl,nN.refl h⟩;have HE:=h.err;obtain⟨⟨bt,bg,vr,vw,q⟩,hi⟩:=h;have c7:=q.b.c.gC 7;have cl:=q.b.c.lt;rw[hc] at c7;have gs:w.cell? ⟨2,0,none⟩=some (.iface 336 (.pointer (some (ev 4)))):=(HE.at 4 (by decide) (by decide)).1;have gl:2<w.heap.size:=(HE.at 4 (by decide) (by decide)).2;clear q hi HE hc e4;go_in
 go_wp2;go_ret;exact FIN.out
theorem QI (T:List Ob):(EF T).length=T.length:=by simp[EF]
theorem QJ (G:List (Int×Ob)):(Dm G).length=G.length:=by simp[Dm]
theorem pclose_B (h:PoX E X F pp p w) (hc:p.cl=false) (hn:0<p.T.length+p.W.length+p.G.length):
 Calls prog 21 #[.pointer (some ⟨pp,0,none⟩)] w (EPost (kQ E pp).S X F p w (kM ev 6)):=by
 have e6:kM ev 6= .iface 336 (.pointer (some (ev 6))):=rfl;rw[e6];have FIN:Hid (∀W,Below w.heap.size w W→EPost (kQ E pp).S X F p w (.iface 336 (.pointer (some (ev 6)))) (.returned (.iface 336 (.pointer (some (ev 6))))) W):=fun W b=>⟨rfl,nN.same h b⟩
 have HE:=h.err;obtain⟨⟨bt,bg,vr,vw,q⟩,hi⟩:=h;have c7:=q.b.c.gC 7;have c3:=q.b.c.gC 3;have c4:=q.b.c.gC 4;have c5:=q.b.c.gC 5;have cl:=q.b.c.lt;rw[hc] at c7;have gs:w.cell? ⟨6,0,none⟩=some (.iface 336 (.pointer (some (ev 6)))):=(HE.at 6 (by decide) (by decide)).1;have gl:6<w.heap.size:=(HE.at 6 (by decide) (by decide)).2;have f1:=hi.Jh;have f2:=hi.w;have lt:=fun m ty=>(q.b.t.below (w':=w.drewN m) (below_drewN (aL _ _) _)).len iH ty
 have lg:=fun m ty=>(q.b.g.below (w':=w.drewN m) (below_drewN (aL _ _) _)).len iI ty
 rw[QI] at lt;rw[QJ] at lg;obtain⟨qw,kw,rfl⟩:=l6 q.b.ow;obtain⟨nT,hT⟩: ∃n,n=p.T.length:=⟨_,rfl⟩;obtain⟨nW,hW⟩: ∃n,n=p.W.length:=⟨_,rfl⟩;obtain⟨nG,hG⟩: ∃n,n=p.G.length:=⟨_,rfl⟩;rw[←hT] at lt f1 hn;rw[←hG] at lg f1 hn;rw[←hW] at c4 f2 hn;have b1:=f1.1;have b2:=f1.2;have s1:(0:Int)<(nT:Int)+(nW:Int)+(nG:Int):=om;have d1:decide ((0:Int)<(nT:Int)+(nW:Int)+(nG:Int))=true:=dQt s1;clear q hi HE hc e6 f1 hT hW hG hn;go_in
 go_wp2_with fail;go_quiet (fail);go_wp2;go_ret;exact FIN.out _ (below_drewN (aL _ _) _)
theorem pclose_C (h:PoX E X F pp p w) (hc:p.cl=false) (hT:p.T=[]) (hW:p.W=[]) (hG:p.G=[]) (hP:nX e ⟨mF e p.d p.R,p.most,[],p.T,p.W,p.G,p.last,true⟩):
 Calls prog 21 #[.pointer (some ⟨pp,0,none⟩)] w (EPost (kQ E pp).S X F ⟨mF e p.d p.R,p.most,[],p.T,p.W,p.G,p.last,true⟩ w .nilIface):=by
 obtain⟨⟨bt,bg,vr,vw,q⟩,hi⟩:=h;have c7:=q.b.c.gC 7;have c3:=q.b.c.gC 3;have c4:=q.b.c.gC 4;have c5:=q.b.c.gC 5;have cl:=q.b.c.lt;rw[hc] at c7;have lt:=fun m ty=>(q.b.t.below (w':=w.drewN m) (below_drewN (aL _ _) _)).len iH ty
 have lg:=fun m ty=>(q.b.g.below (w':=w.drewN m) (below_drewN (aL _ _) _)).len iI ty
 rw[QI,hT] at lt;rw[QJ,hG] at lg;obtain⟨qw,kw,rfl⟩:=l6 q.b.ow;obtain⟨qr,kr,rfl,hcr,hkr⟩:=q.b.r.isSlice;rw[hW] at c4;have HQ:=ah q;have FINP:=ah hP;have HF:=ah hi.fit;have N16:p.R.length≤16:=by have h1:=hi.r;have h2:=hi.m1.2;omega
 obtain⟨N,hN⟩:=eY p.R.length;have EN:=ah hN;rw[←hN] at N16;have ALL:Hid (p.R.take N=p.R):=by show _=_;rw[hN];simp
 clear q hi hc hP hT hW hG hN hcr hkr;go_in
 go_wp2_with fail;go_quiet (fail);rename_i nq;obtain⟨w2,hw2⟩:=eX (w.drewN nq);have hb2:Below w.heap.size w w2:=by rw[←hw2];exact below_drewN (aL _ _) _
 try rw[hw2]
 clear hw2 c7 c3 c4 c5 cl lt lg;have q2:=HQ.out.go hb2;have cl:=q2.b.c.lt;have f7:=q2.b.c.f 7 (by simp[kS]);have c7:=q2.b.c.gC 7;obtain⟨w3,hw3⟩:=eX (w2.setCell ⟨pp,7,none⟩ (.bool true));have K3:Keep [pp] w2 w3:=by rw[←hw3];exact(Keep.refl _ _).setCell (p:=⟨pp,7,none⟩) (.inl sI) _
 have L3:=q2.b.c.store 7 (.bool true) (by simp[kS]);rw[hw3] at L3;have T3:PoT E X F pp bt bg (.slice qr p.R.length kr) (.slice qw p.W.length kw) ⟨mF e p.d (p.R.take 0),p.most,p.R,p.T,p.W,p.G,p.last,true⟩ w3:=q2.wr (p':=⟨p.d,p.most,p.R,p.T,p.W,p.G,p.last,true⟩) K3 L3 rfl rfl rfl rfl rfl;have HX:=ah (q2.inX pp nK);have HK3:=ah K3;have HB2:=ah hb2;have HF2:=ah (show pp∉F from fun r=>q2.f pp r nK);have c2:=L3.gC 2;have cl3:=L3.lt;rw[←EN.out] at c2;have START:=ah T3;clear q2 K3 L3 T3 hb2;go_wp2_with fail;clear hw3 c7 f7 cl;go_loopw [37] (fun iv wr=>∃(i:Nat) (X':List Nat),i≤N∧iv= .int .i64 i∧Hid (PoT E X' F pp bt bg (.slice qr p.R.length kr) (.slice qw p.W.length kw) ⟨mF e p.d (p.R.take i),p.most,p.R,p.T,p.W,p.G,p.last,true⟩ wr)∧Hid (Keep (off X F) w3 wr∧(∀x∈X',x∈X∨w3.heap.size≤x)∧∀x∈X,x∈X')) (fun iv _=>N-(intOf iv).toNat);case atStart=>exact⟨0,X,bq _,by go_num,START,Keep.refl _ _,fun _ q=>.inl q,fun _ q=>q⟩
 case round=>
  obtain⟨i,X',hin,rfl,HT,HM⟩:=hrel;by_cases hlt:i<N
  ·obtain⟨o,ho⟩: ∃o,p.R[i]?=some o:=⟨p.R[i]'(by rw[←EN.out];exact hlt),aA _⟩
   obtain⟨g,off',eg,_,gl,y0,y1⟩:=HT.out.b.r.at ho;subst eg;have fo:qJ o:=HF.out o (av _ (aF ho));have DC:=HT.out.b.c;have c0:=DC.gC 0;have cl:=DC.lt;have GV:Hid (∀W,Below wr.heap.size wr W→Calls prog 50 #[.pointer (some ⟨pd,0,none⟩),.int .i64 0,.agg #[.int .i64 o.1,.int .i64 o.2]] W fun r w'=>(∃v,r= .returned v)∧∃X',PoT E X' F pp bt bg (.slice (some ⟨g,off',none⟩) p.R.length kr) (.slice qw p.W.length kw) ⟨mF e p.d (p.R.take (i+1)),p.most,p.R,p.T,p.W,p.G,p.last,true⟩ w'∧Keep (off X F) w3 w'∧(∀x∈X',x∈X∨w3.heap.size≤x)∧∀x∈X,x∈X'):=fun W hW=>by
    have tw:=HT.out.go hW;refine(E.give 0 o tw.s (by have:=fo.2;unfold kW at this;omega) (by have:=fo.2;unfold kW at this;omega)).mono fun r w' hp=> ?_
    obtain⟨hr,X2,h2,h3,h4,h5⟩:=tw.Dn hp;have z:=(HM.out.1.step hW).size;refine⟨⟨_,hr⟩,X2,?_,?_,fun x q=> ?_,fun x q=>h5 x (HM.out.2.2 x q)⟩
    ·rw[uL ho];exact h2
    ·exact(HM.out.1.step hW).trans h3 fun s q=>by
      obtain⟨q1,q2⟩:=jW.1 q;exact(HM.out.2.1 s q1).imp (fun r=>jW.2 ⟨r,q2⟩) id
    ·rcases h4 x q with r|r
     ·exact HM.out.2.1 x r
     ·exact .inr om
   have hli:(i:Int)<(N:Int):=om;have hl0:(0:Int)≤(i:Int):=om;clear ho fo DC HT HM c2 cl3;go_wp2_with fail;refine lJ 5 kR kR ?_;simp only[aQ,aV,aP,aU];repeat still_step
   refine wpStill_nil ?_;go_wp2_with fail;refine(GV.out _ jY).mono ?_;rintro r w5 ⟨⟨v5,rfl⟩,X5,t5,m5⟩;have HT5:=ah t5;have HM5:=ah m5;clear t5 m5 GV y0 y1 c0 cl;go_wp2;go_roundw;case rel=>exact⟨i+1,X5,om,by go_num,HT5,HM5⟩
   case measure=>simp[intOf];omega
  ·obtain rfl:i=N:=by omega
   have HT':=HT.out;rw[ALL.out] at HT';have DC:=HT'.b.c;have cl:=DC.lt;have f2:=DC.f 2 (by simp[kS]);have x2:=DC.gC 2;have HC:=ah HT';clear HT HT' c2 cl3 DC;go_wp2;go_ret;obtain⟨w7,hw7⟩:=eY (wr.setCell ⟨pp,2,none⟩ (.slice none 0 0));rw[←hw7];have K7:Keep [pp] wr w7:=by rw[hw7];exact(Keep.refl _ _).setCell (p:=⟨pp,2,none⟩) (.inl sI) _
   have L7:=HC.out.b.c.store 2 (.slice none 0 0) (by simp[kS]);rw[←hw7] at L7;obtain⟨m_1,m_2,m_3,m_4,m_5,m_6⟩:=HC.out.b.ne;obtain⟨X9,k1,k2,k3,k4⟩:=HC.out.putR (vr':=.slice none 0 0) (p':=⟨mF e p.d p.R,p.most,[],p.T,p.W,p.G,p.last,true⟩) (K7.mono (fun s r=>by simp at r;subst r;simp)) L7
    (HC.out.b.t.keep K7 (by simp;exact fun r=>m_1 r.symm)) (HC.out.b.g.keep K7 (by simp;exact fun r=>m_2 r.symm)) (mD.nil _ _) rfl rfl FINP.out
   have z2:=HB2.out.size;have z3:=HK3.out.size;have zr:=HM.out.1.size;have KA:Keep (off X F) w w7:=by
    refine((Keep.of HB2.out).trans HK3.out fun s r=> ?_).trans HM.out.1 (fun s r=>.inl r) |>.trans k2 fun s q=> ?_
    ·simp at r;subst r;exact .inl (jW.2 ⟨HX.out,HF2.out⟩)
    ·obtain⟨q1,q2⟩:=jW.1 q
     exact(HM.out.2.1 s q1).imp (fun r=>jW.2 ⟨r,q2⟩) (fun r=>om)
   refine⟨rfl,X9,k1,KA,fun x q=> ?_,fun x q=>k4 x (HM.out.2.2 x q)⟩;rcases k3 x q with r|r
   ·exact(HM.out.2.1 x r).imp id fun r=>om
   ·exact .inr om
theorem U9 (h:PoX E X F pp p w):
 Calls prog 21 #[.pointer (some ⟨pp,0,none⟩)] w (EPost (kQ E pp).S X F (wh e p).1 w (kM ev (wh e p).2)):=by
 have hI:=h.2.close;revert hI;unfold wh;by_cases hc:p.cl=true
 ·rw[if_pos hc];intro _;exact pclose_A h hc
 rw[if_neg hc];have hc':p.cl=false:=by simpa using hc
 by_cases hn:0<p.T.length+p.W.length+p.G.length
 ·rw[if_pos hn];intro _;exact pclose_B h hc' hn
 ·rw[if_neg hn]
  intro hI;exact pclose_C h hc' (bM.1 om) (bM.1 om) (bM.1 om) hI
end
section
variable {mn:Int} {O:List (List Int)} {e:Nat} {p:Po} {k v t:Int} {o:Ob} {d:De}
theorem Ku:(nS p t).2.1≤10∧(nS p t).1.last=p.last∧((nS p t).2.2.1=true→(nS p t).2.2.2∈(nS p t).1.T):=by
 unfold nS;split
 ·exact⟨sI,rfl,fun h=>by simp at h⟩
 split
 ·exact⟨sI,rfl,fun h=>by simp at h⟩
 split
 ·exact⟨sI,rfl,fun h=>by simp at h⟩
 ·exact⟨sI,rfl,fun _=>aj _ (bL.2 rfl)⟩
theorem IZ:(oV e p t).2≤10∧(oV e p t).1.last=p.last:=by
 unfold oV;split
 ·exact⟨sI,rfl⟩
 split
 ·exact⟨sI,rfl⟩
 split
 ·exact⟨sI,rfl⟩
 ·rename_i o _
  obtain⟨h1,h2⟩:=xE (e:=e) (p:=p.fetch t o) (k:=0) (o:=o);exact⟨h1,h2⟩
theorem Kv:(wh e p).2≤10∧(wh e p).1.last=p.last:=by
 unfold wh;split
 ·exact⟨sI,rfl⟩
 split
 ·exact⟨sI,rfl⟩
 ·exact⟨sI,rfl⟩
end
