/- Lemmas. -/
import Derived.Test.YtehhldljdakgeaaGreatDoorQb01
import Derived.Test.YtehhldljdakgeaaGreatDoorQb47
set_option linter.unusedSimpArgs false
set_option linter.unusedVariables false
set_option maxHeartbeats 16000000
set_option maxRecDepth 100000
namespace Go.Proofs.YtehhldljdakgeaaGreatDoor
open Go.RowKit Go.Maps Go.Proofs.Tryz
attribute [local go_sem ↓] aJ aK
theorem xau {P:Program} {ops:Array Oper} {o:Oper} {a:Act} {w:World} {K:Act→World→Prop} {Q:Exit→Act→World→Prop} {E:Prop}
 (hg:o.guard=none) (t t':TypeId) (x:Operand) (hop:o.op=Op.convert t t' x) (u:Value) (hx:a.eval x=u) {v':Value} {w':World} (hr:(convert t t' u).run P w= .ok v' w') (hK:K (a.put o.dst v') w'):
 if Region.wanted o (yielded ops a.tmps)=true then Oper.wp P o a w K Q else E:=by
 have hw:Region.wanted o (yielded ops a.tmps)=true:=by simp[Region.wanted,hg]
 rw[if_pos hw];unfold Oper.wp;simp[execOp,hop,hx,hr,Result.andThen];exact hK
section
variable {pd e:Nat} {mn:Int} {O:List (List Int)} {w0:World} {E:vC pd e mn O w0} {X F S:List Nat} {w w':World} {ps pq sz:Nat} {s:St} {id a n:Int} {vl:Value} {C:RBk} {c:Bk×Nat} {x y:Bk} {r:Value} {en:Ending}
theorem J8 (k v:Int) (hlast:s.p.last<4611686018427387903) (h:(sS (jX E pq) ps pq e sz).S X F s w) (h0:(kI mn O e s.p k v).2.1≠0):
 Calls prog 82 #[.pointer (some ⟨ps,0,none⟩),.int .i64 k,.int .i64 v] w (EPost (sS (jX E pq) ps pq e sz).S X F (s.atP (qK e (kI mn O e s.p k v))) w (.tuple #[.int .i64 0,.int .i64 (kI mn O e s.p k v).2.1])):=by
 have hO:=rO.ord (E:=E) (show rO E X _ pq s.p w from h.1.choose_spec.s);have HI:uG e sz (s.atP (qK e (kI mn O e s.p k v))):=by
  have:=(h.2.take (mn:=mn) hO k v).1;rwa [pJ h0] at this
 have CS:=vV (mn:=mn) (k:=k) (v:=v) h.2.p h.2.w h.2.cl h.2.g hO;obtain⟨⟨⟨vl,C⟩,q⟩,hi⟩:=h;have R0:=Ov.Run.start q;have c0:=q.b.c.gC 0;have cl:=q.b.c.lt;have TK0:=zQ (E:=E) (pq:=pq) k v om (show rO E X _ pq s.p w from q.s);obtain⟨⟨p',cc,o⟩,hr⟩: ∃r,r=kI mn O e s.p k v:=⟨_,rfl⟩;rw[←hr] at HI CS TK0 h0 ⊢;simp only at CS TK0 h0 ⊢;have HR0:=ah R0;have HII:=ah HI;rcases CS with⟨r0,_⟩|⟨r2,rp,ro⟩|⟨r8,ro,rW,rT,rG,rc,rl⟩
 ·exact absurd r0 h0
 ·subst r2 ro
  have TK:=ah (show Calls prog 14 #[.pointer (some ⟨pq,0,none⟩),.int .i64 k,.int .i64 v] w (EPost (jX E pq).S X ((rJ (jX E pq) ps pq sz).ws (vl,C)++F) p' w (.tuple #[.agg #[.int .i64 0,.int .i64 0],.int .i64 2])) from TK0);have eU:Hid (qK e (p',2,(0,0))=p'):=by show qK _ _=_;unfold qK;rw[if_neg sI]
  clear q hi TK0 rp h0 hr HI hO R0 hlast;go_in
  go_wp2_with fail;refine TK.out.mono ?_;rintro r w2 hp;obtain⟨rfl',X2,R2,_⟩:=HR0.out.dep hp;obtain rfl:r= .returned (.tuple #[.agg #[.int .i64 0,.int .i64 0],.int .i64 2]):=rfl';have R3:=R2.box zO;have N3:=(show jR (w2.alloc zO) w2.heap.size [.int .i64 0,.int .i64 0] from jR.mk_ w2 [.int .i64 0,.int .i64 0] 40 rfl);obtain⟨w2',BN⟩: ∃w2',w2.alloc zO=w2':=⟨_,rfl⟩;rw[BN] at R3 N3;have m0:=N3.gC 0;have m1:=N3.gC 1;have f0:=N3.f 0 sI;have f1:=N3.f 1 sI;have ml:=N3.lt;have R3:=R3.wr (b:=w2.heap.size) sI ((Keep.refl [w2.heap.size] w2').Dg (b:=w2.heap.size) (.inl sI) (.int .i64 0) (.int .i64 0));have HR3:=ah R3;clear hp R2 R3 TK c0 cl N3;unfold zO at BN;go_wp2;go_ret2
  exact FEnv.sV (by rw[eU.out];exact HR3.out.fin) HII.out
 ·subst r8 ro
  have TK:=ah (show Calls prog 14 #[.pointer (some ⟨pq,0,none⟩),.int .i64 k,.int .i64 v] w (EPost (jX E pq).S X ((rJ (jX E pq) ps pq sz).ws (vl,C)++F) p' w (.tuple #[.agg #[.int .i64 0,.int .i64 0],.int .i64 8])) from TK0);have eU:Hid (qK e (p',8,(0,0))=(oV e p' (s.p.last+1)).1):=QD rW;have HW:=ah rW;clear q hi TK0 h0 hr HI hO R0 hlast rW rT rG rc rl;go_in
  go_wp2_with fail;refine TK.out.mono ?_;rintro r w2 hp;obtain⟨rfl',X2,R2,_⟩:=HR0.out.dep hp;obtain rfl:r= .returned (.tuple #[.agg #[.int .i64 0,.int .i64 0],.int .i64 8]):=rfl';have R3:=R2.box zO;have N3:=(show jR (w2.alloc zO) w2.heap.size [.int .i64 0,.int .i64 0] from jR.mk_ w2 [.int .i64 0,.int .i64 0] 40 rfl);obtain⟨w2',BN⟩: ∃w2',w2.alloc zO=w2':=⟨_,rfl⟩;rw[BN] at R3 N3;have m0:=N3.gC 0;have m1:=N3.gC 1;have f0:=N3.f 0 sI;have f1:=N3.f 1 sI;have ml:=N3.lt;have R3:=R3.wr (b:=w2.heap.size) sI ((Keep.refl [w2.heap.size] w2').Dg (b:=w2.heap.size) (.inl sI) (.int .i64 0) (.int .i64 0));obtain⟨w3,hw3⟩:=eX ((w2'.setCell ⟨w2.heap.size,0,none⟩ (.int .i64 0)).setCell ⟨w2.heap.size,1,none⟩ (.int .i64 0));rw[hw3] at R3;obtain⟨⟨vr,vt,vw,vg,tp⟩,hip⟩:=(show rO E _ _ pq p' w3 from R3.at_.s);obtain⟨qw,kw,hvw⟩:=l6 tp.b.ow;have ho:=tp.b.ow;rw[hvw] at ho;rw[HW.out] at ho;obtain⟨gw,hgw⟩: ∃gw,qw=some ⟨gw,0,none⟩:=by
   rcases ho.2 with⟨r,_⟩|⟨g,cap,cur,r,_⟩
   ·injection r with _ r _;cases r
   ·injection r with r _ _;exact⟨g,r⟩
  subst hgw;have hWl:p'.W.length=1:=by rw[HW.out];rfl
  have R4:=R3.go (show Below w3.heap.size w3 w3.drew from(aL _ _).drew);have kd:Keep [] w3 w3.drew:=(Keep.refl _ _).drew;have d0:=(R3.at_.b.c.keep kd sI).gC 0;have dl:=(R3.at_.b.c.keep kd sI).lt;have e4:=(tp.b.c.keep kd sI).gC 4;have el:=(tp.b.c.keep kd sI).lt;rw[hvw,hWl] at e4;have x0:w3.drew.cell? ⟨gw,0,none⟩=some (.int .i64 (s.p.last+1)):=by
   have:=(jQ ho kd (fun s t=>by cases t)).cells rfl 0 (.int .i64 (s.p.last+1)) rfl;rwa [addr_add] at this
  have xl:gw<w3.drew.heap.size:=(ho.lt gw rfl).2;have CN:=ah (Ad (E:=E) (pq:=pq) (p:=p') (s.p.last+1) (show rO E _ _ pq p' w3.drew from R4.at_.s));have HR4:=ah R4;clear hp R2 R3 TK N3 tp hip ho hvw hWl R4 kd c0 cl;unfold zO at BN;go_wp2_with fail;clear hw3 BN;have w00:IntKind.i64.wrap 0=0:=aY _ om;refine lJ 22 kR kR ?_;simp only[aQ,aV,aP,aU];repeat still_step
  refine wpStill_nil ?_;go_wp2_with fail;refine CN.out.mono ?_;rintro r w7 hp;obtain⟨rfl,X7,R7,_⟩:=HR4.out.dep hp;have HR7:=ah R7;clear hp R7;go_wp2;go_ret2
  exact FEnv.sV (by rw[eU.out];exact HR7.out.fin) HII.out
theorem Fg (k v:Int) (hsz:sz≤65536) (hlast:s.p.last<4611686018427387903) (hl2:s.last<4611686018427387903) (q:(rJ (jX E pq) ps pq sz).T X F (vl,C) s w) (hi:uG e sz s) (h0:(kI mn O e s.p k v).2.1=0):
 Calls prog 82 #[.pointer (some ⟨ps,0,none⟩),.int .i64 k,.int .i64 v] w fun r w'=>∃vl' nb,(rJ (jX E pq) ps pq sz).Post X F (vl',C++[(sO sz s (kI mn O e s.p k v).2.2,nb)]) ⟨(kI mn O e s.p k v).1,s.L++[sO sz s (kI mn O e s.p k v).2.2],s.last+1⟩ w (.tuple #[.int .i64 (s.last+1),.int .i64 0]) r w':=by
 have R0:=Ov.Run.start q;have c0:=q.b.c.gC 0;have cl:=q.b.c.lt;have TK0:=zQ (E:=E) (pq:=pq) k v om (show rO E X _ pq s.p w from q.s);obtain⟨⟨p',cc,o⟩,hr⟩: ∃r,r=kI mn O e s.p k v:=⟨_,rfl⟩;rw[←hr] at TK0 h0 ⊢;simp only at TK0 h0 ⊢;subst h0;have TK:=ah (show Calls prog 14 #[.pointer (some ⟨pq,0,none⟩),.int .i64 k,.int .i64 v] w (EPost (jX E pq).S X ((rJ (jX E pq) ps pq sz).ws (vl,C)++F) p' w (.tuple #[.agg #[.int .i64 o.1,.int .i64 o.2],.int .i64 0])) from TK0);have HR0:=ah R0;have l0:=hi.l0;have zY:=hi.few;have hB0:=ah ((jX E pq).bel q.s).size;obtain⟨vq,vk,hvl⟩: ∃vq vk,vl= .slice vq s.L.length vk:=l6 q.b.r;subst hvl;have HFEW:=ah zY;have HCL:Hid (C.length=s.L.length):=by show _=_;rw[←q.b.l];simp
 obtain⟨l,hl⟩:=eY s.last;obtain⟨N,hN⟩:=eY s.L.length;have HLL:=ah hl;have HNN:=ah hN;have wl:IntKind.i64.wrap (l+1)=l+1:=aY _ om;have HSZ:=ah hsz;rw[←hl];rw[←hN] at HR0 TK;clear q hi TK0 hr R0 hlast hl hl2 l0 hsz hN zY c0;have c0:=HR0.out.at_.b.c.gC 0;go_in
 go_wp2_with fail;refine TK.out.mono ?_;rintro r w2 hp;obtain⟨rfl',X2,R2,_⟩:=HR0.out.dep hp;obtain rfl:r= .returned (.tuple #[.agg #[.int .i64 o.1,.int .i64 o.2],.int .i64 0]):=rfl';have R3:=R2.box (bO o);have N3:=(show jR (w2.alloc (bO o)) w2.heap.size [.int .i64 o.1,.int .i64 o.2] from jR.mk_ w2 [.int .i64 o.1,.int .i64 o.2] 40 rfl);obtain⟨w3,hw3⟩:=eX (w2.alloc (bO o));rw[hw3] at R3 N3;have C3:=R3.at_.b.c;have c3:=C3.gC 3;have cf:=C3.f 3 (by simp[mg]);have c3l:=C3.lt;rw[show(((rJ (jX E pq) ps pq sz).set s p'):St).last=s.last from rfl,←HLL.out] at c3;have nx:w2.heap.size≠ps:=fun r=>R3.nL (b:=w2.heap.size) sI (mh.2 (.inl r))
 obtain⟨w4,hw4⟩:=eX (w3.setCell ⟨ps,3,none⟩ (.int .i64 (l+1)));have k34:Keep [ps] w3 w4:=by rw[←hw4];exact(Keep.refl _ _).setCell (p:=⟨ps,3,none⟩) (.inl sI) _
 have C4:jR w4 ps (mg pq sz (.slice vq N vk) (l+1)):=by rw[←hw4];exact C3.store 3 (.int .i64 (l+1)) (by simp[mg])
 have N4:=N3.keep k34 (by simpa using nx);have O4:=jQ R3.at_.b.r k34 (fun s t r=>by simp at t;subst t;exact R3.at_.b.ne.1 r);have MK:=ah (Gl sz HSZ.out);obtain⟨bs,hbs⟩: ∃bs:ByteArray,bs=⟨(List.replicate sz (0:UInt8)).toArray⟩:=⟨_,rfl⟩;have CV0:=fun W=>QG sz HSZ.out W
 rw[←hbs] at CV0;have CV:=ah CV0;have x1:=C4.gC 1;have x2:=C4.gC 2;have x3:=C4.gC 3;have xl:=C4.lt;have n0:=N4.gC 0;have n1:=N4.gC 1;have nl:=N4.lt;have HR3:=ah R3;have HC4:=ah C4;have HO4:=ah O4;have HK34:=ah k34;have HBS:=ah hbs;clear hp R2 R3 TK N3 C3 nx k34 C4 N4 O4 c0 cl HR0 CV0 hbs;unfold bO at hw3;go_wp2_with fail;clear hw3 hw4 c3 cf c3l;have nbx:ps≠w2.heap.size:=fun r=>HR3.out.nL (b:=w2.heap.size) sI (mh.2 (.inl r.symm))
 have nvx:w2.heap.size∉jS (.slice vq N vk):=fun r=>HR3.out.nL (b:=w2.heap.size) sI (mh.2 (.inr (.inl r)))
 have npv:ps∉jS (.slice vq N vk):=HR3.out.at_.b.ne.1;have HNVX:=ah nvx;have HNPV:=ah npv;have HS:Hid (∀(T:List Nat) W,Keep T w4 W→ps∉T→w2.heap.size∉T→W.cell? ⟨ps,1,none⟩=some (.int .i64 sz)∧W.cell? ⟨ps,2,none⟩=some (.slice vq N vk)∧W.cell? ⟨ps,3,none⟩=some (.int .i64 (l+1))∧W.cell? ⟨w2.heap.size,0,none⟩=some (.int .i64 o.1)∧W.cell? ⟨w2.heap.size,1,none⟩=some (.int .i64 o.2)):=fun T W k a b=>⟨(k.cell xl a).trans x1,(k.cell xl a).trans x2,(k.cell xl a).trans x3,(k.cell nl b).trans n0,(k.cell nl b).trans n1⟩
 have O4:w4.ownsRow w0.heap.size 90 1 (.slice vq N vk) s.L.length (DR (C.map (·.2))):=HO4.out;rw[←HNN.out] at O4;have HO4':=ah O4;have NW:Hid (∀(W:World) (u:Value) (t:TypeId),W.heap.size=w4.heap.size+1+1→∀j u',[u][j]?=some u'→(W.alloc (.cells #[u] t)).cell? ((⟨w4.heap.size+1+1,0,none⟩:Addr).add j)=some u'):=fun W u t e=>by rw[←e];exact Xh W u t
 have hN7:N≤65536:=by have:=HNN.out;have:=HFEW.out;omega
 have hB4:w0.heap.size≤w4.heap.size:=by have:=((jX E pq).bel HR3.out.at_.s).size;have:=HK34.out.size;omega
 clear nbx nvx npv O4;have AF:Hid (∀(q9:Option Addr) (k9:Nat) (w9:World),(((w4.alloc (.cells (lH (List.replicate sz 0)).toArray 5)).alloc (.cells #[.int .i64 (l+1),.int .i64 o.1,.int .i64 o.2,.string bs,.int .i64 1] 92)).alloc (.cells #[.pointer (some ⟨w4.heap.size+1,0,none⟩)] 90)).drew.grownBy w9 (Value.slice vq N vk).ownBlock→
  ((Value.slice q9 (N+1) k9).ownBlock=(Value.slice vq N vk).ownBlock∨(Value.slice q9 (N+1) k9).ownBlock=some (((w4.alloc (.cells (lH (List.replicate sz 0)).toArray 5)).alloc (.cells #[.int .i64 (l+1),.int .i64 o.1,.int .i64 o.2,.string bs,.int .i64 1] 92)).alloc (.cells #[.pointer (some ⟨w4.heap.size+1,0,none⟩)] 90)).drew.heap.size)→
  Keep (jS (.slice vq N vk)) w4 w9∧jR w9 (w4.heap.size+1) (Fa (sO sz s o))∧(∀y∈jS (.slice q9 (N+1) k9),y∈jS (.slice vq N vk)∨(w4.heap.size≤y∧y≠w4.heap.size+1))∧w4.heap.size+1<w9.heap.size):=fun q9 k9 w9 hg ho=>by
  have P7:jR ((w4.alloc (.cells (lH (List.replicate sz 0)).toArray 5)).alloc (.cells #[.int .i64 (l+1),.int .i64 o.1,.int .i64 o.2,.string bs,.int .i64 1] 92)) (w4.alloc (.cells (lH (List.replicate sz 0)).toArray 5)).heap.size [.int .i64 (l+1),.int .i64 o.1,.int .i64 o.2,.string bs,.int .i64 1]:=jR.new _ _ 92;rw[show(w4.alloc (.cells (lH (List.replicate sz 0)).toArray 5)).heap.size=w4.heap.size+1 by simp] at P7;have kA:=kJ hg;have lo: ∀y∈jS (.slice vq N vk),y<w4.heap.size:=fun y hy=>(jZ HO4.out hy).2
  have k1:Keep (jS (.slice vq N vk)) w4 w9:=Keep.then (by repeat(first|exact Keep.refl _ _|refine Keep.alloc ?_ _|refine Keep.drew ?_)) kA;have P8:=(P7.keep (S:=jS (.slice vq N vk)) (Keep.then (by repeat(first|exact Keep.refl _ _|refine Keep.alloc ?_ _|refine Keep.drew ?_)) kA) (fun r=>by have:=lo _ r;omega));refine⟨k1,?_,fun y hy=> ?_,P8.lt⟩
  ·rw[HLL.out,HBS.out] at P8
   exact P8
  ·rcases oM ho y hy with r|r
   ·exact .inl r
   ·exact .inr ⟨by simp at r;omega,by simp at r;omega⟩
 have CVW:=CV.out w4.drew;refine kE (S:=(fun w'=>w'.cell? ⟨ps,1,none⟩=some (.int .i64 sz)∧w'.cell? ⟨ps,2,none⟩=some (.slice vq N vk)∧w'.cell? ⟨ps,3,none⟩=some (.int .i64 (l+1))∧w'.cell? ⟨w2.heap.size,0,none⟩=some (.int .i64 o.1)∧w'.cell? ⟨w2.heap.size,1,none⟩=some (.int .i64 o.2))) 19 #[false,false,false,false,false,false,false,false,false,false,false,false,false,false,false,false,false,false,false] rfl kR kR (by(try dsimp only);go_keep) (fun hHeld=> ?_);simp only[aQ,aV];refine tk 0 ?_;refine tk 1 ?_;refine tk 2 ?_;refine tk 3 ?_;refine tk 4 ?_;refine tk 5 ?_;refine tk 6 ?_;refine tk 7 ?_;refine tk 8 ?_;refine tk 9 ?_;refine tk 10 ?_;refine tk 11 ?_;refine tk 12 ?_;refine wpAnyH_ready (rs:=[13]) kR sI ?_;refine aR (jT rfl) (fun K hK=> ?_) aX;refine yN rf 75 (.tmp 68) (.tmp 68) rf (.int .i64 (sz:Nat)) (.int .i64 (sz:Nat)) rf rf (MK.out _) ?_;refine hkO hK fun hHeld=> ?_
 clear hK K;refine wpAnyH_ready (rs:=[14]) kR sI ?_;refine aR (jT rfl) (fun K hK=> ?_) aX;refine xau rf 75 9 (.tmp 69) rf (.slice (some ⟨w4.drew.heap.size,0,none⟩) sz sz) rf CVW ?_;refine hK.out _ _ (by first|exact hHeld|((try dsimp only);go_keep)) (fun hHeld=> ?_);clear hK K;try simp only[Act.put,pA,pZ,pS]
 refine tk 15 ?_;refine wpAnyH_ready (rs:=[16]) kR sI ?_;refine aR (jT rfl) (fun K hK=> ?_) aX;go_simp
 refine hkO hK fun hHeld=> ?_
 clear hK K;refine wpAnyH_ready (rs:=[17]) kR sI ?_;refine aR (jT rfl) (fun K hK=> ?_) aX;go_simp
 refine hK.out _ _ (by(try dsimp only);exact HS.out [] _ (by repeat(first|exact Keep.refl _ _|refine Keep.alloc ?_ _|refine Keep.drew ?_)) sI sI) (fun hHeld=> ?_);clear hK K;try simp only[Act.put,pA,pZ,pS]
 refine wpAnyH_ready (rs:=[18]) kR sI ?_;refine aR (jT rfl) (fun K hK=> ?_) aX;refine oI elBy (base:=w0.heap.size) (v:=.slice vq N vk) (n:=N) (ms:=[.pointer (some ⟨w4.heap.size+1,0,none⟩)]) (ad:=⟨w4.heap.size+1+1,0,none⟩) rf (.tmp 59) (.tmp 73) rf rf rf (jQ HO4'.out (S:=[]) (by repeat(first|exact Keep.refl _ _|refine Keep.alloc ?_ _|refine Keep.drew ?_)) (fun s hs=>by cases hs)) rfl (fun j u hj=>NW.out _ _ _ sI j u hj) (by intro u hu;simp at hu;subst hu;rfl) om (by simp;omega) ?_;intro q9 k9 w9 hown9 hg9 ho9;obtain⟨K9,P9,Z9,B9⟩:=AF.out q9 k9 w9 hg9 ho9;have hsz9:=K9.size;have HP9:=ah P9;have HZ9:=ah Z9;have HK9:=ah K9;have HO9:=ah hown9;have C9:=HC4.out.keep K9 HNPV.out;have y2:=C9.gC 2;have y3:=C9.gC 3;have yf:=C9.f 2 (by simp[mg]);have yl:=C9.lt;have HC9:=ah C9;refine hK.out _ _ (by(try dsimp only);exact HS.out _ _ HK9.out HNPV.out HNVX.out) (fun hHeld=> ?_);clear hK K;try simp only[Act.put,pA,pZ,pS]
 refine wpAnyH_done kR ?_ _;simp only[oz,aP,aU];clear hown9 hg9 ho9 K9 P9 Z9 C9 hHeld x1 x2 x3 xl n0 n1 nl CVW;obtain⟨w10,hw10⟩:=eX (w9.setCell ⟨ps,2,none⟩ (.slice q9 (N+1) k9));have k90:Keep [ps] w9 w10:=by rw[←hw10];exact(Keep.refl _ _).setCell (p:=⟨ps,2,none⟩) (.inl sI) _
 have C10:jR w10 ps (mg pq sz (.slice q9 (N+1) k9) (l+1)):=by rw[←hw10];exact HC9.out.store 2 (.slice q9 (N+1) k9) (by simp[mg])
 have r3:=HR3.out;have z34:=HK34.out.size;have z90:=k90.size;have psl:ps<w3.heap.size:=r3.lt (mh.2 (.inl rfl));have O10:=jQ HO9.out k90 (fun y t r=>by
  simp at t;subst t;rcases HZ9.out _ r with u|⟨u,_⟩
  ·exact HNPV.out u
  ·omega)
 have P10:=HP9.out.keep k90 (by simp;omega);have k30:Keep (ps::jS (.slice vq N vk)) w3 w10:=((HK34.out.mono (fun q t=>by simp at t;subst t;simp)).then (HK9.out.mono (fun q t=>ak _ t))).then (k90.mono (fun q t=>by simp at t;subst t;simp));have lim3: ∀y∈Fb ps (.slice vq N vk) C,y<w3.heap.size:=fun y hy=>r3.lt (show y∈(rJ (jX E pq) ps pq sz).ws (.slice vq N vk,C) from hy)
 have rb:tY w0.heap.size w3 ps pq sz (.slice vq N vk) C s.L s.last:=r3.at_.b;have SB:tY w0.heap.size w10 ps pq sz (.slice q9 (N+1) k9) (C++[(sO sz s o,w4.heap.size+1)]) (s.L++[sO sz s o]) (l+1):=tY.add rb ((jX E pq).bel r3.at_.s).size k30 C10 (by
  rw[←HNN.out,Fe];exact O10) (fun y hy=>by
  rcases HZ9.out y hy with u|⟨u,v⟩
  ·exact .inl u
  ·exact .inr ⟨om,v⟩) om P10
 have ws': ∀{y:Nat},y∈Fb ps (.slice q9 (N+1) k9) (C++[(sO sz s o,w4.heap.size+1)])→y∈Fb ps (.slice vq N vk) C∨(w3.heap.size≤y∧y<w10.heap.size):=fun {y} hy=>by
  rcases mh.1 hy with u|u|⟨c,hc,u⟩
  ·exact .inl (mh.2 (.inl u))
  ·rcases HZ9.out y u with v|⟨v,_⟩
   ·exact .inl (mh.2 (.inr (.inl v)))
   ·exact .inr ⟨om,(jZ O10 u).2⟩
  ·rcases aD.1 hc with v|v
   ·exact .inl (mh.2 (.inr (.inr ⟨c,v,u⟩)))
   ·simp at v;subst v;subst u;exact .inr ⟨by simp;omega,P10.lt⟩
 have hk:Keep ((rJ (jX E pq) ps pq sz).ws (.slice vq N vk,C)++[w2.heap.size]) w3 w10:=k30.mono fun q t=>by
  refine av _ ?_;rcases aB.1 t with u|u
  ·exact mh.2 (.inl u)
  ·exact mh.2 (.inr (.inl u))
 have hb':(rJ (jX E pq) ps pq sz).B (.slice q9 (N+1) k9,C++[(sO sz s o,w4.heap.size+1)]) ⟨p',s.L++[sO sz s o],l+1⟩ w10:=SB;obtain⟨X8,R8⟩:=Ov.Run.put (V:=rJ (jX E pq) ps pq sz) (m:=(.slice vq N vk,C)) (m':=(.slice q9 (N+1) k9,C++[(sO sz s o,w4.heap.size+1)])) (t':=⟨p',s.L++[sO sz s o],l+1⟩) (L':=[]) r3 hk
  (fun y t=>(ws' t).elim .inl fun u=>.inr (.inr u.1))
  (fun y t=>(ws' t).elim (fun u=>by have:=lim3 y u;have:=k30.size;omega) (·.2)) (fun q t=>by cases t) hb' rfl
 have HR8:=ah R8;have u3:=C10.gC 3;have ul:=C10.lt;clear r3 z34 z90 psl O10 P10 k30 lim3 rb SB ws' hk hb' R8 k90 C10 hsz9 B9;go_wp2;go_ret2
 exact⟨_,_,HR8.out.finM⟩
theorem Uk (k v:Int) (hsz:sz≤65536) (hlast:s.p.last<4611686018427387903) (hl2:s.last<4611686018427387903) (h:(sS (jX E pq) ps pq e sz).S X F s w):
 Calls prog 82 #[.pointer (some ⟨ps,0,none⟩),.int .i64 k,.int .i64 v] w (EPost (sS (jX E pq) ps pq e sz).S X F (pW mn O e sz s k v).1 w (.tuple #[.int .i64 (pW mn O e sz s k v).2.2,.int .i64 (pW mn O e sz s k v).2.1])):=by
 by_cases h0:(kI mn O e s.p k v).2.1=0
 ·have hO:=rO.ord (E:=E) (show rO E X _ pq s.p w from h.1.choose_spec.s)
  have HI:=(h.2.take (mn:=mn) hO k v).1;rw[qx h0] at HI ⊢;obtain⟨⟨⟨vl,C⟩,q⟩,hi⟩:=h;refine(Fg k v hsz hlast hl2 q hi h0).mono ?_;rintro r w' ⟨vl',nb,hp⟩;exact FEnv.sV hp.env HI
 ·rw[pJ h0]
  exact J8 k v hlast h h0
end
section
variable {pd e:Nat} {mn:Int} {O:List (List Int)} {w0:World} {E:vC pd e mn O w0} {X F S:List Nat} {w w':World} {ps pq sz:Nat} {s:St} {id a n:Int} {vl:Value} {C:RBk} {c:Bk×Nat} {x y:Bk} {r:Value} {en:Ending}
theorem xav (k v id:Int) (hsz:1≤sz∧sz≤65536) (hlast:s.p.last<4611686018427387903) (hl2:s.last<4611686018427387903) (h:(sS (jX E pq) ps pq e sz).S X F s w):
 Calls prog 88 #[.pointer (some ⟨ps,0,none⟩),.int .i64 k,.int .i64 v,.int .i64 id] w (EPost (sS (jX E pq) ps pq e sz).S X F (Kg mn O e sz s k v id).1 w (.tuple #[.int .i64 (Kg mn O e sz s k v id).2.2,.int .i64 (Kg mn O e sz s k v id).2.1])):=by
 have SAME:=ah (fun r=>xI (r:=r) h);have hO:=rO.ord (E:=E) (show rO E X _ pq s.p w from h.1.choose_spec.s);have HI:=h.2.own (mn:=mn) hO k v id;revert HI;unfold Kg;cases hx:mW s.L id with
 |none=>
  intro _;obtain⟨⟨⟨vl,C⟩,q⟩,hi⟩:=h;have A:=qy id q.b hi.few;rw[tY.nohas q.b hx] at A;have HA:=ah (show Calls prog 86 #[.pointer (some ⟨ps,0,none⟩),.int .i64 id] w fun r w'=>r= .returned (.pointer none)∧w'=w from A);clear q hi hx hO hsz hlast hl2 A;go_in
  go_wp2_with fail;refine HA.out.mono ?_;rintro r w1 ⟨rfl,hw1⟩;obtain rfl:=hw1.symm;go_wp2;go_ret2
  exact SAME.out _ _ (aL _ _)
 |some x=>
  simp only;by_cases h1:x.h=1
  ·rw[if_pos h1]
   intro _;obtain⟨⟨⟨vl,C⟩,q⟩,hi⟩:=h;have A:=qy id q.b hi.few;obtain⟨c,hc,rfl,_,hf⟩:=tY.has q.b hx;rw[hf] at A;have b1:=q.b.b c hc;have x4:=b1.gC 4;have xl:=b1.lt;rw[h1] at x4;obtain⟨pb,hpb⟩:=eY c.2;rw[←hpb] at x4 xl;have HA:=ah (show Calls prog 86 #[.pointer (some ⟨ps,0,none⟩),.int .i64 id] w fun r w'=>r= .returned (.pointer (some ⟨pb,0,none⟩))∧w'=w from hpb▸A);clear q hi hx hc hf b1 hpb A h1 hO hsz hlast hl2;go_in
   go_wp2_with fail;refine HA.out.mono ?_;rintro r w1 ⟨rfl,hw1⟩;obtain rfl:=hw1.symm;go_wp2;go_ret2
   exact SAME.out _ _ (aL _ _)
  rw[if_neg h1];by_cases h0:(kI mn O e s.p k v).2.1=0
  ·have e1:=qx (sz:=sz) h0
   rw[e1];simp only;rw[if_pos trivial];intro HI;obtain⟨⟨⟨vl,C⟩,q⟩,hi⟩:=h;have A:=qy id q.b hi.few;obtain⟨c,hc,rfl,hci,hf⟩:=tY.has q.b hx;rw[hf] at A;have hxm:=mH hx;have TK:=ah (Fg (mn:=mn) k v hsz.2 hlast hl2 q hi h0);have HT:=(hi.take (mn:=mn) (sz:=sz) hO k v).1;rw[e1] at HT;have b1:=q.b.b c hc;have x4:=b1.gC 4;have xl:=b1.lt;obtain⟨hh,hhe⟩:=eY c.1.h;have hge:=(hi.hs c.1 hxm.1);rw[←hhe] at x4 h1 hge;have d1:((hh:Int)==1)=false:=by simp;omega
   obtain⟨H,hH⟩: ∃H:Int,H=(hh:Int)-1:=⟨_,rfl⟩;have wl:IntKind.i64.wrap ((hh:Int)-1)=H:=by rw[hH];exact aY _ om
   have e1H:Hid (((c.1.h-1:Nat):Int)=H):=by show _=_;omega
   have FF:=ah (Ov.Run.start q).ff;obtain⟨nb,hnb⟩:=eY (sO sz s (kI mn O e s.p k v).2.2);have nbid:nb.id=s.last+1:=by rw[hnb];rfl
   have hne:c.1.id≠nb.id:=by have:=(hi.rng c.1 hxm.1).2;omega
   obtain⟨p',hp'⟩: ∃p',p'=(kI mn O e s.p k v).1:=⟨_,rfl⟩;rw[←hp',←hnb] at HT HI TK;rw[←hp',←hnb];obtain⟨l,hl⟩:=eY (s.last+1);rw[←hl] at HT HI TK nbid ⊢;have HC:=ah hc;have HTT:=ah HT;have HII:=ah HI;have HNI:=ah nbid;have HNE:=ah hne;have HHE:=ah hhe;obtain⟨pb,hpb⟩:=eY c.2;rw[←hpb] at x4 xl;have HA:=ah (show Calls prog 86 #[.pointer (some ⟨ps,0,none⟩),.int .i64 id] w fun r w'=>r= .returned (.pointer (some ⟨pb,0,none⟩))∧w'=w from hpb▸A);have HPB:=ah hpb;obtain⟨BB,hBB⟩: ∃BB:ByteArray,BB=⟨c.1.b.toArray⟩:=⟨_,rfl⟩;have HBB:=ah hBB;clear q hi hx hxm hc hf b1 A h1 hO hsz hlast hl2 HT HI nbid hne hnb hp' hl hhe hH hge e1 h0 SAME hpb hBB hci;go_in
   go_wp2_with fail;refine HA.out.mono ?_;rintro r w1 ⟨rfl,hw1⟩;obtain rfl:=hw1.symm;go_wp2_with fail;refine TK.out.mono ?_;rintro r w1 ⟨vl',gb,rfl,X1,T1,K1,x1,x2⟩;clear x4 xl;have R1:(rJ (jX E pq) ps pq sz).Run X F w [] X1 (vl',C++[(nb,gb)]) ⟨p',s.L++[nb],l⟩ w1:=⟨⟨⟨_,T1⟩,K1,x1,x2,fun b q=>by cases q⟩,T1,FF.out⟩;have SB1:tY w0.heap.size w1 ps pq sz vl' (C++[(nb,gb)]) (s.L++[nb]) l:=T1.b;have nd1:((s.L++[nb]).map (·.id)).Nodup:=HTT.out.ndI;have hfn:mW (s.L++[nb]) l=some nb:=by
    have:=uN nd1 (aj _ (bL.2 rfl));rwa [HNI.out] at this
   obtain⟨c',hc',hn',_,hf'⟩:=SB1.has hfn;have hcm:c∈C++[(nb,gb)]:=av _ HC.out;have hne':c'.1.id≠c.1.id:=by rw[hn'];exact HNE.out.symm
   have a1:c'.2≠c.2:=fun q=>hne' (by rw[zV SB1.ne.2.2 hc' hcm q])
   have n1:=SB1.b c' hc';have m1:=SB1.b c hcm;have FN:=fun W (hW:Below w1.heap.size w1 W)=>qy l (T1.go hW).b (HTT.out.few)
   rw[hf'] at FN;have m3:=m1.gC 3;have ml:=m1.lt;rw[←HPB.out,←HBB.out] at m3;rw[←HPB.out] at ml;obtain⟨gn,hgn⟩:=eY c'.2;have nl:=n1.lt;have nf:=n1.f 3 (by simp[Fa]);have n3:=n1.gC 3;rw[←hgn] at nl nf n3;have HFN:=ah (show∀W,Below w1.heap.size w1 W→Calls prog 86 #[.pointer (some ⟨ps,0,none⟩),.int .i64 l] W fun r w'=>r= .returned (.pointer (some ⟨gn,0,none⟩))∧w'=W from fun W hW=>hgn▸FN W hW);have HR1:=ah R1;have HSB:=ah SB1;have HND:=ah nd1;have HC':=ah hc';have HN':=ah hn';have HCM:=ah hcm;have HA1:=ah a1;have HGN:=ah hgn;have HT1:=ah T1;have k12:Keep [c'.2] w1 (w1.setCell ⟨c'.2,3,none⟩ (.string BB)):=(Keep.refl _ _).setCell (p:=⟨c'.2,3,none⟩) (.inl sI) _;have N2:=n1.store 3 (.string BB) (by simp[Fa]);have hfr:(w1.setCell ⟨c'.2,3,none⟩ (.string BB)).heap.size=w1.heap.size:=sI;obtain⟨w2,hw2⟩:=eX (w1.setCell ⟨c'.2,3,none⟩ (.string BB));rw[hw2] at k12 N2 hfr;have SB2:=tY.put (y:=nb.wr c.1.b) SB1 nd1 hc' (by rw[hn'];rfl) k12 (fun q t=>by simpa using t) (by
    rw[HBB.out,hn'] at N2;exact N2)
   have hc2:c∈vH (C++[(nb,gb)]) (nb.wr c.1.b):=by
    unfold vH;exact bC.2 ⟨c,hcm,if_neg HNE.out⟩
   have g1:=SB2.b c hc2;have m1':=HSB.out.b c hcm;have y4:=m1'.gC 4;have yf:=m1'.f 4 (by simp[Fa]);have yl:=m1'.lt;rw[←HHE.out,←HPB.out] at y4;rw[←HPB.out] at yf yl;have k23:Keep [c.2] w2 (w2.setCell ⟨c.2,4,none⟩ (.int .i64 H)):=(Keep.refl _ _).setCell (p:=⟨c.2,4,none⟩) (.inl sI) _;have G3:=g1.store 4 (.int .i64 H) (by simp[Fa]);obtain⟨w3,hw3⟩:=eX (w2.setCell ⟨c.2,4,none⟩ (.int .i64 H));rw[hw3] at k23 G3;have SB3:=tY.put (y:=c.1.hold (c.1.h-1)) SB2 (by rw[AX];exact nd1) hc2 rfl k23 (fun q t=>by simpa using t) (by
    have:Fa (c.1.hold (c.1.h-1))=(Fa c.1).set 4 (.int .i64 H):=by
     show[_,_,_,_,Value.int .i64 ((c.1.h-1:Nat):Int)]=_;rw[e1H.out];rfl
    rw[this];exact G3)
   have wsm: ∀{y:Nat},y∈Fb ps vl' (vH (vH (C++[(nb,gb)]) (nb.wr c.1.b)) (c.1.hold (c.1.h-1)))→y∈Fb ps vl' (C++[(nb,gb)]):=fun {y} hy=>by
    rwa [AY,AY] at hy
   have k13:Keep ((rJ (jX E pq) ps pq sz).ws (vl',C++[(nb,gb)])++[]) w1 w3:=by
    rw[dw];exact(k12.mono (fun q t=>by simp at t;subst t;exact mh.2 (.inr (.inr ⟨c',hc',rfl⟩)))).then (k23.mono (fun q t=>by simp at t;subst t;exact mh.2 (.inr (.inr ⟨c,hcm,rfl⟩))))
   have hb':(rJ (jX E pq) ps pq sz).B (vl',vH (vH (C++[(nb,gb)]) (nb.wr c.1.b)) (c.1.hold (c.1.h-1))) (((⟨p',s.L++[nb],l⟩:St).put (nb.wr c.1.b)).put (c.1.hold (c.1.h-1))) w3:=SB3;obtain⟨X3,R3⟩:=Ov.Run.put (V:=rJ (jX E pq) ps pq sz) (m:=(vl',C++[(nb,gb)])) (m':=(vl',vH (vH (C++[(nb,gb)]) (nb.wr c.1.b)) (c.1.hold (c.1.h-1)))) (t':=((⟨p',s.L++[nb],l⟩:St).put (nb.wr c.1.b)).put (c.1.hold (c.1.h-1))) (L':=[]) R1 k13 (fun q t=>.inl (wsm t)) (fun y t=>aC (T1.lim y (wsm t)).2 k13.size) (fun q t=>by cases t) hb' rfl;have R3:=R3.go (show Below w3.heap.size w3 w3.drew from(aL _ _).drew);have HR3:=ah R3;have HW2:=ah hw2;have HW3:=ah hw3;have a2:gn≠pb:=by rw[hgn,HPB.out];exact a1
   have a3:pb≠gn:=a2.symm;clear T1 K1 x1 x2 R1 SB1 nd1 hfn hc' hn' hf' hcm hne' n1 m1 FN a1 k12 N2 hfr SB2 hc2 g1 k23 G3 SB3 wsm k13 hb' R3 HSB HND HC' HN' HCM HA1 HT1 hgn hw2 hw3 m1';go_wp2_with fail;refine kE (S:=(fun w'=>w'.cell? ⟨pb,3,none⟩=some (.string BB))) 9 #[false,false,false,false,false,false,false,false,false] rfl kR kR (by(try dsimp only);go_keep) (fun hHeld=> ?_);simp only[aQ,aV];refine tk 0 ?_;refine tk 1 ?_;refine tk 3 ?_;refine tk 4 ?_;refine tk 5 ?_;refine tk 6 ?_;refine wpAnyH_ready (rs:=[2]) kR sI ?_;refine aR (jT rfl) (fun K hK=> ?_) aX;refine qY rf 86 #[.pointer (some ⟨ps,0,none⟩),.int .i64 l] kR (.pointer (some ⟨gn,0,none⟩)) _ (HFN.out _ (by first|exact aL _ _|exact(aL _ _).drew)) ?_;refine hK.out _ _ (by first|exact hHeld|((try dsimp only);go_keep)) (fun hHeld=> ?_);clear hK K;try simp only[Act.put,pA,pZ,pS]
   refine tk 7 ?_;refine tk 8 ?_;refine wpAnyH_done kR ?_ _;simp only[oz,aP,aU];clear hHeld m3 ml;go_wp2;go_ret2
   have:=HR3.out;rw[←HW3.out,←HW2.out,←HPB.out,←HGN.out] at this;exact FEnv.sV this.fin HII.out
  ·have TN:=ah (J8 (mn:=mn) k v hlast h h0)
   have hcc:0<(kI mn O e s.p k v).2.1:=om;rw[pJ h0];simp only;rw[if_neg h0];intro _;obtain⟨cc,hcd⟩:=eY ((kI mn O e s.p k v).2.1);rw[←hcd] at TN hcc ⊢;have d0:decide ((0:Int)<(cc:Int))=true:=dQt om;obtain⟨⟨⟨vl,C⟩,t⟩,hi⟩:=h;have A:=qy id t.b hi.few;obtain⟨c,hc,rfl,_,hf⟩:=tY.has t.b hx;rw[hf] at A;have b1:=t.b.b c hc;have x4:=b1.gC 4;have xl:=b1.lt;have d1:((c.1.h:Int)==1)=false:=by simp;omega
   obtain⟨hh,hhe⟩:=eY c.1.h;obtain⟨pb,hpb⟩:=eY c.2;rw[←hhe] at x4 d1;rw[←hpb] at x4 xl;have HA:=ah (show Calls prog 86 #[.pointer (some ⟨ps,0,none⟩),.int .i64 id] w fun r w'=>r= .returned (.pointer (some ⟨pb,0,none⟩))∧w'=w from hpb▸A);clear t hi hx hc hf b1 hhe hpb A h1 hO hsz hlast hl2 h0 hcd SAME;go_in
   go_wp2_with fail;refine HA.out.mono ?_;rintro r w1 ⟨rfl,hw1⟩;obtain rfl:=hw1.symm;go_wp2_with fail;refine TN.out.mono ?_;rintro r w1 ⟨rfl,hp2⟩;have HP2:=ah hp2;clear hp2;go_wp2;go_ret2
   exact⟨rfl,HP2.out⟩
end
section
variable {mn:Int} {O:List (List Int)} {e sz:Nat} {s:St} {k v id a n:Int} {t:List UInt8}
theorem Fh (hO:rM O s.p.d.c.L.length) (h:uG e sz s):(pW mn O e sz s k v).2.1≤10∧(pW mn O e sz s k v).1.last≤s.last+1∧(pW mn O e sz s k v).1.p.last≤s.p.last+1:=by
 refine⟨?_,?_,(h.take (mn:=mn) hO k v).2⟩
 ·have:=(EX (mn:=mn) (O:=O) (e:=e) (p:=s.p) (k:=k) (v:=v)).1
  unfold pW;split
  ·exact bq _
  ·exact this
 ·unfold pW;split
  ·exact bZ _
  ·show s.last≤_;omega
theorem Um:(wZ s id).2≤10∧(wZ s id).1.last=s.last∧(wZ s id).1.p=s.p:=by
 unfold wZ;split
 ·exact⟨om,rfl,rfl⟩
 ·split
  ·exact⟨om,rfl,rfl⟩
  ·exact⟨om,rfl,rfl⟩
theorem Un:(sP e s k id).2≤10∧(sP e s k id).1.last=s.last∧(sP e s k id).1.p.last=s.p.last:=by
 unfold sP;split
 ·exact⟨om,rfl,rfl⟩
 ·split
  ·exact⟨om,rfl,rfl⟩
  ·split
   ·exact⟨om,rfl,xE.2⟩
   ·exact⟨om,rfl,rfl⟩
theorem Pk:(nZ sz s id a t).2≤10∧(nZ sz s id a t).1.last=s.last∧(nZ sz s id a t).1.p=s.p:=by
 unfold nZ;split
 ·exact⟨om,rfl,rfl⟩
 ·split
  ·exact⟨om,rfl,rfl⟩
  ·split
   ·exact⟨om,rfl,rfl⟩
   ·exact⟨om,rfl,rfl⟩
theorem xaw (hO:rM O s.p.d.c.L.length) (h:uG e sz s):(Kg mn O e sz s k v id).2.1≤10∧(Kg mn O e sz s k v id).1.last≤s.last+1∧(Kg mn O e sz s k v id).1.p.last≤s.p.last+1:=by
 obtain⟨h1,h2,h3⟩:=Fh (mn:=mn) (k:=k) (v:=v) hO h;unfold Kg;split
 ·exact⟨jH rfl,by simp only;omega,by simp only;omega⟩
 ·split
  ·exact⟨jH rfl,by simp only;omega,by simp only;omega⟩
  ·split
   ·exact⟨jH rfl,h2,h3⟩
   ·exact⟨h1,h2,h3⟩
theorem Uo (h:lC sz s id a n≠0):vG sz s id a n=[]:=by
 unfold vG;split
 ·rfl
 ·rw[if_neg h]
end
section
variable {pd pc pz pdm e B:Nat} {ev:Nat→Addr} {w w3:World} {E:sG pd pc pz e 0 [[0]] ev w3} {D:vC pdm e 0 [[0]] w3} {pp pq ps pm:Nat} {L:List Nat} {s:St} {W:World}
def SD (E:sG pd pc pz e 0 [[0]] ev w3) (D:vC pdm e 0 [[0]] w3) (pp pq ps pm:Nat) (w:World) (L:List Nat) (s s':St) (W:World):Prop:=lT (vI (kQ E pp) ps pp e e) (sS (jX D pq) pm pq e e) w L s s' W
theorem SD.inv {s':St} (h:SD E D pp pq ps pm w L s s' W):uG e e s∧rM [[0]] s.p.d.c.L.length:=by
 obtain⟨X,F,Y,G,q⟩:=h;exact⟨q.s.2,PoX.ord (E:=E) (show PoX E X _ pp s.p W from q.s.1.choose_spec.s)⟩
theorem SD.e64 {s':St} (h:SD E D pp pq ps pm w L s s' W):1≤e∧e≤64:=⟨h.inv.1.p.inv.c.e1,h.inv.1.p.inv.c.e2⟩
theorem J9 (kd text:ByteArray) (wk nd id a n:Int) (h:SD E D pp pq ps pm w L s s W) (hE: ∀W,Below w.heap.size w W→qC B ev W) (hid:kW id) (ha:kW a) (hn:kW n) (ht:text.size≤200) (hl1:s.last<1000000) (hl2:s.p.last<1000000):
 Calls prog 41 #[.pointer (some ⟨ps,0,none⟩),.pointer (some ⟨pm,0,none⟩),.agg #[.string kd,.int .i64 wk,.int .i64 nd,.int .i64 id,.int .i64 a,.int .i64 n,.string text]] W fun r W'=>r= .returned (.bool true)∧∃s',SD E D pp pq ps pm w L s' s' W'∧s'.last≤s.last+1∧s'.p.last≤s.p.last+1:=by
 have h64:=h.e64;obtain⟨hI,hO⟩:=h.inv;have CD:Hid (∀(i:Nat) (W:World),Below w.heap.size w W→i≤10→Calls prog 11 #[kM ev i,.int .i64 i] W fun e w'=>e= .returned (.bool true)∧Below W.heap.size W w'):=fun i W hW hi=>sM i i W (hE W hW) hi rfl
 obtain⟨wa,hwa⟩:=eX (W.alloc (.cells #[.string kd,.int .i64 wk,.int .i64 nd,.int .i64 id,.int .i64 a,.int .i64 n,.string text] 85));have LB0:=jR.mk_ W [.string kd,.int .i64 wk,.int .i64 nd,.int .i64 id,.int .i64 a,.int .i64 n,.string text] 85 rfl;have DA0:=lT.box h (.cells #[.string kd,.int .i64 wk,.int .i64 nd,.int .i64 id,.int .i64 a,.int .i64 n,.string text] 85);obtain⟨bx,hbx⟩:=eX W.heap.size;rw[hwa] at DA0;replace LB0:jR wa W.heap.size [.string kd,.int .i64 wk,.int .i64 nd,.int .i64 id,.int .i64 a,.int .i64 n,.string text]:=hwa▸LB0;rw[hbx] at DA0 LB0;have LB:=ah LB0;have DA:=ah (show SD E D pp pq ps pm w (bx::L) s s wa from DA0);have a0:=LB0.gC 0;have a1:=LB0.gC 1;have a2:=LB0.gC 2;have a3:=LB0.gC 3;have a4:=LB0.gC 4;have a5:=LB0.gC 5;have a6:=LB0.gC 6;have al:=LB0.lt;have LESS:Hid (∀(s':St) W,SD E D pp pq ps pm w (bx::L) s' s' W→SD E D pp pq ps pm w L s' s' W):=fun s' W q=>lT.less q fun b hb=>ak _ hb
 have H64:=ah h64;have HL1:=ah hl1;have HL2:=ah hl2;have HT:=ah ht;have HFI:=ah hid;have HFA:=ah ha;have HFN:=ah hn;clear h LB0 DA0 hE h64 hid ha hn ht;by_cases k1:(kd.toList==[116,97,107,101])=true
 ·obtain⟨f1,f2,f3⟩:=Fh (mn:=0) (k:=wk) (v:=nd) hO hI
  have C1:=fun W (h:SD E D pp pq ps pm w (bx::L) s s W)=>lT.zP h (fun X F t=>yB wk nd (by have:=H64.out;omega) om om t)
  have C2:=fun s1 W (h:SD E D pp pq ps pm w (bx::L) s1 s W)=>lT.Ak h (fun Y G t=>Uk wk nd (by have:=H64.out;omega) om om t)
  obtain⟨rr,hrr⟩:=eY (pW 0 [[0]] e e s wk nd);rw[←hrr] at f1 f2 f3 C1 C2;obtain⟨s2,c,i⟩:=rr;simp only at f1 f2 f3 C1 C2;obtain⟨EV,hEV⟩:=eY (kM ev c);have CDC:Hid (∀W,Below w.heap.size w W→Calls prog 11 #[EV,.int .i64 c] W fun e w'=>e= .returned (.bool true)∧Below W.heap.size W w'):=fun W hW=>by rw[hEV];exact CD.out c W hW f1
  rw[←hEV] at C1;have H1:=ah C1;have H2:=ah C2;have FF:Hid (s2.last≤s.last+1∧s2.p.last≤s.p.last+1):=⟨f2,f3⟩;clear hl1 hl2 hI hO C1 C2 hrr hEV f1 f2 f3;go_in
  go_wp2_with fail;refine(H1.out _ DA.out).mono ?_;rintro r wb ⟨rfl,DXb,K1,hk1,hn1⟩;have LBb:=LB.out.keep hk1 (hn1 bx sI);have b1:=LBb.gC 1;have b2:=LBb.gC 2;have bl:=LBb.lt;clear hwa a0 a1 a2 a3 a4 a5 a6 al LBb hk1 hn1;go_wp2_with fail;refine(H2.out _ _ DXb).mono ?_;rintro r wd ⟨rfl,DXd,K2,hk2,hn2⟩;clear DXb hk2 hn2 b1 b2 bl;have HDX:=ah DXd;have CC:=ah (CDC.out _ DXd.bel);clear DXd;go_wp2_with fail;refine CC.out.mono ?_;rintro r wz ⟨rfl,hbf⟩;have FIN:=ah (LESS.out _ _ (lT.go HDX.out hbf));go_wp2;go_ret;exact⟨rfl,_,FIN.out,FF.out⟩
 have k1:(kd.toList==[116,97,107,101])=false:=by simpa using k1
 by_cases k2:(kd.toList==[104,111,108,100])=true
 ·obtain⟨f1,f2,f3⟩:=Um (s:=s) (id:=id)
  have C1:=fun W (h:SD E D pp pq ps pm w (bx::L) s s W)=>lT.zP h (fun X F t=>IC HFI.out t)
  have C2:=fun s1 W (h:SD E D pp pq ps pm w (bx::L) s1 s W)=>lT.Ak h (fun Y G t=>Uh id t)
  obtain⟨rr,hrr⟩:=eY (wZ s id);rw[←hrr] at f1 f2 f3 C1 C2;obtain⟨s2,c⟩:=rr;simp only at f1 f2 f3 C1 C2;obtain⟨EV,hEV⟩:=eY (kM ev c);have CDC:Hid (∀W,Below w.heap.size w W→Calls prog 11 #[EV,.int .i64 c] W fun e w'=>e= .returned (.bool true)∧Below W.heap.size W w'):=fun W hW=>by rw[hEV];exact CD.out c W hW f1
  rw[←hEV] at C1;have H1:=ah C1;have H2:=ah C2;have FF:Hid (s2.last≤s.last+1∧s2.p.last≤s.p.last+1):=⟨om,by rw[f3];omega⟩;clear hl1 hl2 hI hO C1 C2 hrr hEV f1 f2 f3;go_in
  go_wp2_with fail;go_region_held3 (fun w'=>w'.cell? ⟨bx,3,none⟩=some (.int .i64 id)) (go_keep) (first
   |(go_at_call 31;refine(H1.out _ (lT.go DA.out jY)).mono ?_;rintro r wb ⟨rfl,DXb,K1,hk1,hn1⟩;have LBb:=LB.out.mP.keep hk1 (hn1 bx sI);have x3:=LBb.gC 3)
   |(go_at_call 83;refine(H2.out _ _ DXb).mono ?_;rintro r wd ⟨rfl,DXd,K2,hk2,hn2⟩;have LBd:=LBb.keep hk2 (hn2 bx sI);have c3:=LBd.gC 3)
   |(go_at_call 11;refine(CDC.out _ (lT.bel DXd)).mono ?_;rintro r wz ⟨rfl,hbf⟩;have DXz:=lT.go DXd hbf;have e3:=(LBd.go hbf).gC 3))
  have FIN:=ah (LESS.out _ _ DXz);clear DXz DXd DXb;go_wp2;go_ret;exact⟨rfl,_,FIN.out,FF.out⟩
 have k2:(kd.toList==[104,111,108,100])=false:=by simpa using k2
 by_cases k3:(kd.toList==[100,114,111,112])=true
 ·obtain⟨f1,f2,f3⟩:=Un (e:=e) (s:=s) (k:=wk) (id:=id)
  have C1:=fun W (h:SD E D pp pq ps pm w (bx::L) s s W)=>lT.zP h (fun X F t=>IJ HFI.out wk om t)
  have C2:=fun s1 W (h:SD E D pp pq ps pm w (bx::L) s1 s W)=>lT.Ak h (fun Y G t=>Uj wk id t)
  obtain⟨rr,hrr⟩:=eY (sP e s wk id);rw[←hrr] at f1 f2 f3 C1 C2;obtain⟨s2,c⟩:=rr;simp only at f1 f2 f3 C1 C2;obtain⟨EV,hEV⟩:=eY (kM ev c);have CDC:Hid (∀W,Below w.heap.size w W→Calls prog 11 #[EV,.int .i64 c] W fun e w'=>e= .returned (.bool true)∧Below W.heap.size W w'):=fun W hW=>by rw[hEV];exact CD.out c W hW f1
  rw[←hEV] at C1;have H1:=ah C1;have H2:=ah C2;have FF:Hid (s2.last≤s.last+1∧s2.p.last≤s.p.last+1):=⟨om,om⟩;clear hl1 hl2 hI hO C1 C2 hrr hEV f1 f2 f3;go_in
  go_wp2_with fail;go_region_held3 (fun w'=>w'.cell? ⟨bx,1,none⟩=some (.int .i64 wk)∧w'.cell? ⟨bx,3,none⟩=some (.int .i64 id)) (go_keep) (first
   |(go_at_call 30;refine(H1.out _ (lT.go DA.out jY)).mono ?_;rintro r wb ⟨rfl,DXb,K1,hk1,hn1⟩;have LBb:=LB.out.mP.keep hk1 (hn1 bx sI);have x1:=LBb.gC 1;have x3:=LBb.gC 3)
   |(go_at_call 84;refine(H2.out _ _ DXb).mono ?_;rintro r wd ⟨rfl,DXd,K2,hk2,hn2⟩;have LBd:=LBb.keep hk2 (hn2 bx sI);have c1:=LBd.gC 1;have c3:=LBd.gC 3)
   |(go_at_call 11;refine(CDC.out _ (lT.bel DXd)).mono ?_;rintro r wz ⟨rfl,hbf⟩;have DXz:=lT.go DXd hbf;have e1:=(LBd.go hbf).gC 1;have e3:=(LBd.go hbf).gC 3))
  have FIN:=ah (LESS.out _ _ DXz);clear DXz DXd DXb;go_wp2;go_ret;exact⟨rfl,_,FIN.out,FF.out⟩
 have k3:(kd.toList==[100,114,111,112])=false:=by simpa using k3
 by_cases k4:(kd.toList==[114,101,97,100])=true
 ·have hc0:lC e s id a n=0∨lC e s id a n=2∨lC e s id a n=4:=uO
  have C1: ∀W,SD E D pp pq ps pm w (bx::L) s s W→Calls prog 33 #[.pointer (some ⟨ps,0,none⟩),.int .i64 id,.int .i64 a,.int .i64 n] W fun r w'=>r= .returned (.tuple #[.string ⟨(vG e s id a n).toArray⟩,kM ev (lC e s id a n)])∧Below W.heap.size W w':=fun W h=>by
   obtain⟨X,F,Y,G,q⟩:=h;exact zq (by have:=H64.out;omega) HFI.out HFA.out HFN.out q.s
  have C2: ∀W,SD E D pp pq ps pm w (bx::L) s s W→Calls prog 85 #[.pointer (some ⟨pm,0,none⟩),.int .i64 id,.int .i64 a,.int .i64 n] W fun r w'=>r= .returned (.int .i64 (lC e s id a n))∧w'=W:=fun W h=>by
   obtain⟨X,F,Y,G,q⟩:=h;exact CY id a n HFA.out HFN.out (by have:=H64.out;omega) q.t
  have H1:=ah C1;have H2:=ah C2;by_cases h0:lC e s id a n=0
  ·obtain⟨x,hx,q1,q2,q3,q4⟩:=zo h0
   have hrd:vG e s id a n=(x.b.drop a.toNat).take n.toNat:=by unfold vG;rw[hx];simp only;rw[if_pos h0]
   have hxl:=hI.len x (mH hx).1;have C3: ∀W,SD E D pp pq ps pm w (bx::L) s s W→∃pb,pb<W.heap.size∧W.cell? ⟨pb,3,none⟩=some (.string ⟨x.b.toArray⟩)∧∀W',Below W.heap.size W W'→Calls prog 86 #[.pointer (some ⟨pm,0,none⟩),.int .i64 id] W' fun r w'=>r= .returned (.pointer (some ⟨pb,0,none⟩))∧w'=W':=fun W h=>by
    obtain⟨X,F,Y,G,q⟩:=h;obtain⟨⟨⟨vl,C⟩,t⟩,hi⟩:=q.t;obtain⟨c,hc,rfl,_,hf⟩:=tY.has t.b hx;refine⟨c.2,(t.b.b c hc).lt,(t.b.b c hc).gC 3,fun W' hW=> ?_⟩;have:=qy id (t.go hW).b hi.few;rw[hf] at this;exact this
   have H3:=ah C3;rw[h0] at H1 H2;rw[show kM ev 0=Value.nilIface from rfl] at H1;obtain⟨bs,hbs⟩: ∃bs:ByteArray,bs=⟨(vG e s id a n).toArray⟩:=⟨_,rfl⟩;rw[←hbs] at H1;obtain⟨BB,hBB⟩: ∃BB:ByteArray,BB=⟨x.b.toArray⟩:=⟨_,rfl⟩;rw[←hBB] at H3;have hBs:BB.size=e:=by rw[hBB,←hxl];simp[ByteArray.size]
   have wl:IntKind.i64.wrap (a+n)=a+n:=aY _ (by have:=H64.out;omega);have CU: ∀W,(Instr.slice 9 (.string BB) (some (.int .i64 a)) (some (.int .i64 (a+n))) none).run prog W= .ok (.string bs) W:=fun W=>by
    rw[run_slice_string W 9 BB .i64 .i64 a (a+n) kR q1 om om,hbs,hBB,hrd,jP];rw[show(a+n).toNat-a.toNat=n.toNat by omega]
   clear hl1 hl2 hI hO C1 C2 C3 hx hrd hxl hbs hBB q1 q2 q3 q4 hc0 h0;go_in
   go_wp2_with fail;refine(H1.out _ DA.out).mono ?_;rintro r wb ⟨rfl,hb1⟩;have DB:=ah (lT.go DA.out hb1);have LBb:=LB.out.go hb1;have b3:=LBb.gC 3;have b4:=LBb.gC 4;have b5:=LBb.gC 5;have bl:=LBb.lt;clear hwa a0 a1 a2 a3 a4 a5 a6 al LBb hb1;go_wp2_with fail;refine(H2.out _ DB.out).mono ?_;rintro r wb' ⟨rfl,hw'⟩;obtain rfl:=hw'.symm;obtain⟨pb,pl,pc,FN⟩:=H3.out _ DB.out;have HFND:=ah FN;clear FN;go_wp2_with fail;go_quiet ((go_at_call 86;exact Calls.quiet_of_same (HFND.out _ jY)));go_wp2;go_ret;exact⟨rfl,_,LESS.out _ _ (lT.go DB.out jY),om,om⟩
  ·rw[Uo h0] at H1
   have hp: ∃p,kM ev (lC e s id a n)= .iface 336 (.pointer (some p)):=by rcases hc0 with q|q|q;(·exact absurd q h0);(·rw[q];exact⟨_,rfl⟩);(·rw[q];exact⟨_,rfl⟩)
   obtain⟨EV,hEV⟩:=eY (kM ev (lC e s id a n));have CDC:Hid (∀W,Below w.heap.size w W→Calls prog 11 #[EV,.int .i64 (lC e s id a n)] W fun e w'=>e= .returned (.bool true)∧Below W.heap.size W w'):=fun W hW=>by rw[hEV];exact CD.out _ W hW om
   rw[←hEV] at H1;obtain⟨c,hc⟩:=eY (lC e s id a n);rw[←hc] at H2 CDC h0;have d0:decide ((0:Int)<(c:Int))=true:=dQt om;have d0':0<c:=om;clear hl1 hl2 hI hO C1 C2 hEV hc hc0 h0 hp;go_in
   go_wp2_with fail;refine(H1.out _ DA.out).mono ?_;rintro r wb ⟨rfl,hb1⟩;have DB:=ah (lT.go DA.out hb1);have LBb:=LB.out.go hb1;have b3:=LBb.gC 3;have b4:=LBb.gC 4;have b5:=LBb.gC 5;have bl:=LBb.lt;clear hwa a0 a1 a2 a3 a4 a5 a6 al LBb hb1;go_wp2_with fail;refine(H2.out _ DB.out).mono ?_;rintro r wb' ⟨rfl,hw'⟩;obtain rfl:=hw'.symm;have CC:=ah (CDC.out _ (lT.bel DB.out));go_wp2_with fail;refine CC.out.mono ?_;rintro r wz ⟨rfl,hbf⟩;have FIN:=ah (LESS.out _ _ (lT.go DB.out hbf));go_wp2;go_ret;exact⟨rfl,_,FIN.out,om,om⟩
 have k4:(kd.toList==[114,101,97,100])=false:=by simpa using k4
 by_cases k5:(kd.toList==[119,114,105,116,101])=true
 ·obtain⟨f1,f2,f3⟩:=Pk (sz:=e) (s:=s) (id:=id) (a:=a) (t:=text.data.toList)
  have C1:=fun W (h:SD E D pp pq ps pm w (bx::L) s s W)=>lT.zP h (fun X F t=>zS (t:=text) (by have:=H64.out;omega) HFI.out HFA.out (by have:=HT.out;omega) t)
  have C2:=fun s1 W (h:SD E D pp pq ps pm w (bx::L) s1 s W)=>lT.Ak h (fun Y G t=>Ph id a text HFA.out (by have:=H64.out;omega) (by have:=HT.out;omega) t)
  obtain⟨rr,hrr⟩:=eY (nZ e s id a text.data.toList);rw[←hrr] at f1 f2 f3 C1 C2;obtain⟨s2,c⟩:=rr;simp only at f1 f2 f3 C1 C2;obtain⟨EV,hEV⟩:=eY (kM ev c);have CDC:Hid (∀W,Below w.heap.size w W→Calls prog 11 #[EV,.int .i64 c] W fun e w'=>e= .returned (.bool true)∧Below W.heap.size W w'):=fun W hW=>by rw[hEV];exact CD.out c W hW f1
  rw[←hEV] at C1;have H1:=ah C1;have H2:=ah C2;have FF:Hid (s2.last≤s.last+1∧s2.p.last≤s.p.last+1):=⟨om,by rw[f3];omega⟩;clear hl1 hl2 hI hO C1 C2 hrr hEV f1 f2 f3;go_in
  go_wp2_with fail;go_region_held3 (fun w'=>w'.cell? ⟨bx,3,none⟩=some (.int .i64 id)∧w'.cell? ⟨bx,4,none⟩=some (.int .i64 a)∧w'.cell? ⟨bx,6,none⟩=some (.string text)) (go_keep) (first
   |(go_at_call 34;refine(H1.out _ (lT.go DA.out jY)).mono ?_;rintro r wb ⟨rfl,DXb,K1,hk1,hn1⟩;have LBb:=LB.out.mP.keep hk1 (hn1 bx sI);have x3:=LBb.gC 3;have x4:=LBb.gC 4;have x6:=LBb.gC 6)
   |(go_at_call 87;refine(H2.out _ _ DXb).mono ?_;rintro r wd ⟨rfl,DXd,K2,hk2,hn2⟩;have LBd:=LBb.keep hk2 (hn2 bx sI);have c3:=LBd.gC 3;have c4:=LBd.gC 4;have c6:=LBd.gC 6)
   |(go_at_call 11;refine(CDC.out _ (lT.bel DXd)).mono ?_;rintro r wz ⟨rfl,hbf⟩;have DXz:=lT.go DXd hbf;have e3:=(LBd.go hbf).gC 3;have e4:=(LBd.go hbf).gC 4;have e6:=(LBd.go hbf).gC 6))
  have FIN:=ah (LESS.out _ _ DXz);clear DXz DXd DXb;go_wp2;go_ret;exact⟨rfl,_,FIN.out,FF.out⟩
 have k5:(kd.toList==[119,114,105,116,101])=false:=by simpa using k5
 obtain⟨f1,f2,f3⟩:=xaw (mn:=0) (k:=wk) (v:=nd) (id:=id) hO hI;have C1:=fun W (h:SD E D pp pq ps pm w (bx::L) s s W)=>lT.zP h (fun X F t=>sown_any wk nd HFI.out ⟨H64.out.1,by have:=H64.out;omega⟩ om om t)
 have C2:=fun s1 W (h:SD E D pp pq ps pm w (bx::L) s1 s W)=>lT.Ak h (fun Y G t=>xav wk nd id ⟨H64.out.1,by have:=H64.out;omega⟩ om om t)
 obtain⟨rr,hrr⟩:=eY (Kg 0 [[0]] e e s wk nd id);rw[←hrr] at f1 f2 f3 C1 C2;obtain⟨s2,c,i⟩:=rr;simp only at f1 f2 f3 C1 C2;obtain⟨EV,hEV⟩:=eY (kM ev c);have CDC:Hid (∀W,Below w.heap.size w W→Calls prog 11 #[EV,.int .i64 c] W fun e w'=>e= .returned (.bool true)∧Below W.heap.size W w'):=fun W hW=>by rw[hEV];exact CD.out c W hW f1
 rw[←hEV] at C1;have H1:=ah C1;have H2:=ah C2;have FF:Hid (s2.last≤s.last+1∧s2.p.last≤s.p.last+1):=⟨f2,f3⟩;clear hl1 hl2 hI hO C1 C2 hrr hEV f1 f2 f3;go_in
 go_wp2_with fail;refine(H1.out _ DA.out).mono ?_;rintro r wb ⟨rfl,DXb,K1,hk1,hn1⟩;have LBb:=LB.out.keep hk1 (hn1 bx sI);have b1:=LBb.gC 1;have b2:=LBb.gC 2;have b3:=LBb.gC 3;have bl:=LBb.lt;clear hwa a0 a1 a2 a3 a4 a5 a6 al LBb hk1 hn1;go_wp2_with fail;refine(H2.out _ _ DXb).mono ?_;rintro r wd ⟨rfl,DXd,K2,hk2,hn2⟩;clear DXb hk2 hn2 b1 b2 b3 bl;have HDX:=ah DXd;have CC:=ah (CDC.out _ (lT.bel DXd));clear DXd;go_wp2_with fail;refine CC.out.mono ?_;rintro r wz ⟨rfl,hbf⟩;have FIN:=ah (LESS.out _ _ (lT.go HDX.out hbf));go_wp2;go_ret;exact⟨rfl,_,FIN.out,FF.out⟩
end
