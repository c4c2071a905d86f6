/- Lemmas and contracts for the claim's last text: PWait, Laid. -/
import Derived.Test.YtdcbhlcbiokbeaaGreatDoorPf01
import Derived.Test.YtdcbhlcbiokbeaaGreatDoorPf22
set_option linter.unusedSimpArgs false
set_option linter.unusedVariables false
set_option maxHeartbeats 16000000
set_option maxRecDepth 100000
namespace Go.Proofs.YtdcbhlcbiokbeaaGreatDoor
section
open Go.RowKit Go.Maps
attribute [local go_sem ↓] aO aP
theorem nH {w:World} {B n:Nat} {E:TypeId} {v:Value} {us:List Value} {s:Nat} (h:w.ownsRow B E s v n us): ∃q k,v= .slice q n k:=by
 rcases h.2 with⟨e,e2⟩|⟨g,cap,cur,e,_⟩
 ·exact⟨none,0,by rw[e,e2]⟩
 ·exact⟨_,_,e⟩
theorem zU (xs:List Int):(ints xs).length=xs.length:=by simp[ints]
section
variable {pd pc pz e:Nat} {mn:Int} {O:List (List Int)} {ev:Nat→Addr} {w0:World} {E:uo pd pc pz e mn O ev w0} {X F:List Nat} {w:World} {pp:Nat} {p:Po}
theorem zV (hlast:p.last<4611686018427387904) (h:PoX E X F pp p w):
 Calls Tryz.prog 156 #[.pointer (some ⟨pp,0,none⟩)] w (PPost E X F pp (lM p).1 w (iJ ev (lM p).2)):=by
 have HIN:=ah (kJ.waitI h.2)
 have hl0:=h.2.l0
 have hw8:=h.2.w
 have FIN0:Hid (∀W,Below w.heap.size w W→jm E X F pp p w W):=fun W b=>jm.same h b
 obtain⟨⟨bt,bg,vr,vw,q⟩,hi⟩:=h
 have HE:=ah (E.err.go (E.bel q.s))
 obtain⟨qw,kw,rfl⟩:=nH q.b.ow
 have c4:=q.b.c.c 4 _ rfl;have c6:=q.b.c.c 6 _ rfl;have cl:=q.b.c.lt;have f6:=q.b.c.f 6 (by simp[iD]);have f4:=q.b.c.f 4 (by simp[iD])
 have e8:iJ ev 8= .iface 434 (.pointer (some (ev 8))):=rfl
 have e10:iJ ev 10= .iface 434 (.pointer (some (ev 10))):=rfl
 unfold lM at HIN ⊢
 by_cases h8:8≤p.W.length
 ·rw[if_pos h8,e10]
  have gs:w.cell? ⟨7,0,none⟩=some (.iface 434 (.pointer (some (ev 10)))):=HE.out.cell 10 (by decide) (by decide)
  have gl:7<w.heap.size:=aF (HE.out.glob 10 (by decide) (by decide)) HE.out.size
  have d8:decide ((8:Int)≤(p.W.length:Int))=true:=decide_eq_true om
  obtain⟨n,hn⟩: ∃n,n=p.W.length:=⟨_,rfl⟩
  rw[←hn] at c4 d8 hw8
  clear q hi hn h8 HIN
  go_enter Tryz.func156,Tryz.ntmps156
  go_wp2
  go_ret
  exact⟨rfl,FIN0.out _ (aU _ _)⟩
 ·rw[if_neg h8] at HIN
  rw[if_neg h8,e8]
  have d8:decide ((8:Int)≤(p.W.length:Int))=false:=decide_eq_false om
  have gs:w.cell? ⟨8,0,none⟩=some (.iface 434 (.pointer (some (ev 8)))):=HE.out.cell 8 (by decide) (by decide)
  have gl:8<w0.heap.size:=HE.out.glob 8 (by decide) (by decide)
  have HQ:=ah q
  obtain⟨n,hn⟩: ∃n,n=p.W.length:=⟨_,rfl⟩
  have EN:=ah hn
  obtain⟨L,hL⟩: ∃L,L=p.last:=⟨_,rfl⟩
  have EL:=ah hL
  rw[←hn] at c4 d8 hw8 h8
  rw[←hL] at c6 hlast hl0
  have wl:IntKind.i64.wrap (L+1)=L+1:=bU _ om
  obtain⟨w1,hw1⟩: ∃w1,w1=w.setCell ⟨pp,6,none⟩ (.int .i64 (L+1)):=⟨_,rfl⟩
  have L1:=ah (show gX w1 pp _ from by rw[hw1];exact q.b.c.store 6 (.int .i64 (L+1)) (by simp[iD]))
  have K1:Hid (Keep [pp] w w1):=by show Keep [pp] w w1;rw[hw1];exact(Keep.refl _ _).setCell (p:=⟨pp,6,none⟩) (.inl sI) _
  have NE:=ah q.b.ne
  have x4:=L1.out.c 4 _ rfl;have x6:=L1.out.c 6 _ rfl;have xl:=L1.out.lt;have xf4:=L1.out.f 4 (by simp[iD])
  rw[←hn] at x4
  have IL:Hid ((ints p.W).length=n):=(zU p.W).trans hn.symm
  have O1:Hid (w1.ownsRow w0.heap.size 3 1 (.slice qw n kw) n (ints p.W)):=by
   have:=gZ q.b.ow K1.out (fun s hs=>by simp at hs;subst hs;exact q.b.ne.2.2.2.1)
   rw[←hn] at this;exact this
  have OW:Hid (((w1.alloc (.cells #[.int .i64 (L+1)] 3)).drew).ownsRow w0.heap.size 3 1 (.slice qw n kw) (ints p.W).length (ints p.W)):=by
   show World.ownsRow _ _ _ _ _ _ _
   rw[IL.out]
   exact(O1.out.alloc _).drew
  have SRC:Hid (BF ((w1.alloc (.cells #[.int .i64 (L+1)] 3)).drew) (some ⟨w1.heap.size,0,none⟩) [.int .i64 (L+1)]):=y9 ((gX.mk_ w1 [.int .i64 (L+1)] 3 rfl).jO)
  have B0:Hid (w0.heap.size≤w1.heap.size):=by
   show w0.heap.size≤w1.heap.size
   have:=(E.bel q.s).size;have:=K1.out.size;omega
  clear q hi hn hL hlast
  go_enter Tryz.func156,Tryz.ntmps156
  go_wp2_with fail
  rw[←hw1]
  clear hw1 c4 c6 f6 f4 cl
  refine iN (S:=(fun w'=>w'.cell? ⟨pp,4,none⟩=some (.slice qw n kw)∧w'.cell? ⟨pp,6,none⟩=some (.int .i64 (L+1)))) 11 #[false,false,false,false,false,false,false,false,false,false,false] rfl kR kR (by(try dsimp only);go_keep) (fun hHeld=> ?_)
  simp only[aT,bq]
  refine ctk (i:=0) (v:= ?_) rfl (fun _ _ _ h=>h) (Or.inl ⟨rf,?_⟩) ?_
  rotate_left
  ·(intro w hSw;(try dsimp only at hSw);go_simp<;>with_reducible rfl)
  try simp only[Act.put,pA,pZ,pS]
  refine ctk (i:=1) (v:= ?_) rfl (fun _ _ _ h=>h) (Or.inl ⟨rf,?_⟩) ?_
  rotate_left
  ·(intro w hSw;(try dsimp only at hSw);go_simp<;>with_reducible rfl)
  try simp only[Act.put,pA,pZ,pS]
  refine ctk (i:=2) (v:= ?_) rfl (fun _ _ _ h=>h) (Or.inl ⟨rf,?_⟩) ?_
  rotate_left
  ·(intro w hSw;(try dsimp only at hSw);go_simp<;>with_reducible rfl)
  try simp only[Act.put,pA,pZ,pS]
  refine ctk (i:=3) (v:= ?_) rfl (fun _ _ _ h=>h) (Or.inl ⟨rf,?_⟩) ?_
  rotate_left
  ·(intro w hSw;(try dsimp only at hSw);go_simp<;>with_reducible rfl)
  try simp only[Act.put,pA,pZ,pS]
  refine ctk (i:=4) (v:= ?_) rfl (fun _ _ _ h=>h) (Or.inl ⟨rf,?_⟩) ?_
  rotate_left
  ·(intro w hSw;(try dsimp only at hSw);go_simp<;>with_reducible rfl)
  try simp only[Act.put,pA,pZ,pS]
  refine ctk (i:=5) (v:= ?_) rfl (fun _ _ _ h=>h) (Or.inl ⟨rf,?_⟩) ?_
  rotate_left
  ·(intro w hSw;(try dsimp only at hSw);go_simp<;>with_reducible rfl)
  try simp only[Act.put,pA,pZ,pS]
  refine ctk (i:=6) (v:= ?_) rfl (fun _ _ _ h=>h) (Or.inl ⟨rf,?_⟩) ?_
  rotate_left
  ·(intro w hSw;(try dsimp only at hSw);go_simp<;>with_reducible rfl)
  try simp only[Act.put,pA,pZ,pS]
  refine ctk (i:=7) (v:= ?_) rfl (fun _ _ _ h=>h) (Or.inl ⟨rf,?_⟩) ?_
  rotate_left
  ·(intro w hSw;(try dsimp only at hSw);go_simp<;>with_reducible rfl)
  try simp only[Act.put,pA,pZ,pS]
  refine ctk (i:=8) (v:= ?_) rfl (fun _ _ _ h=>h) (Or.inl ⟨rf,?_⟩) ?_
  rotate_left
  ·(intro w hSw;(try dsimp only at hSw);go_simp<;>with_reducible rfl)
  try simp only[Act.put,pA,pZ,pS]
  refine wpAnyH_ready (rs:=[9]) kR sI ?_
  refine aS (ig rfl) (fun K hK=> ?_) aV
  go_simp
  refine hK.out _ _ (by(try dsimp only);go_keep) (fun hHeld=> ?_)
  clear hK K
  try simp only[Act.put,pA,pZ,pS]
  refine wpAnyH_ready (rs:=[10]) kR sI ?_
  refine aS (ig rfl) (fun K hK=> ?_) aV
  refine jN Ah (base:=w0.heap.size) (v:=.slice qw n kw) (us:=ints p.W) (ms:=[.int .i64 (L+1)]) (p:=some ⟨w1.heap.size,0,none⟩) rf (.tmp 21) (.tmp 26) rf rf 1 rf rfl OW.out SRC.out (by intro x hx;simp at hx;subst hx;rfl) (by rw[IL.out];simp;omega) (by have:=B0.out;simp;omega) ?_
  intro q4 k4 w4 iP hg4 ho4
  have e5:(ints p.W++[Value.int .i64 (L+1)]).length=n+1:=by rw[bM,IL.out];rfl
  rw[e5] at iP ho4 ⊢
  have eo:gY (.slice qw n kw)=gY (.slice qw p.W.length kw):=by rw[EN.out]
  have npp:pp∉gY (.slice qw n kw):=by rw[eo];exact NE.out.2.2.2.1
  have K4:Keep (gY (.slice qw n kw)) w1 w4:=(show Keep (gY (.slice qw n kw)) w1 ((w1.alloc (.cells #[.int .i64 (L+1)] 3)).drew) from Keep.of iq).then (iK hg4)
  have y0:=(K4.cell (o:=4) xl npp).trans x4
  have y1:=(K4.cell (o:=6) xl npp).trans x6
  have yf:=(K4.frozen (o:=4) xl npp).trans xf4
  have yl:=aF xl K4.size
  refine hK.out _ _ (by(try dsimp only);go_keep) (fun hHeld=> ?_)
  clear hK K
  try simp only[Act.put,pA,pZ,pS]
  refine wpAnyH_done kR ?_ _
  simp only[kH,aL,aW]
  have HK4:=ah K4;have HOWN:=ah iP;have EO:=ah eo
  have HVN:Hid (∀y∈gY (.slice q4 (n+1) k4),y∈gY (.slice qw n kw)∨w1.heap.size≤y):=fun y hy=>by
   rcases mP ho4 y hy with r|r
   ·exact .inl r
   ·exact .inr (by simp at r;omega)
  have gl4:8<w4.heap.size:=by have:=B0.out;have:=K4.size;omega
  have gs4:w4.cell? ⟨8,0,none⟩=some (.iface 434 (.pointer (some (ev 8)))):=by
   have nw:8∉gY (.slice qw n kw):=fun r=>by
    rw[eo] at r
    have:=(HQ.out.b.lim _ (yE r)).1;omega
   have np:8∉[pp]:=fun r=>by
    simp at r
    have:=(HQ.out.b.lim _ jr).1;omega
   exact(K4.cell (o:=0) (by have:=B0.out;omega) nw).trans ((K1.out.cell (o:=0) (by have:=HE.out.size;omega) np).trans gs)
  have gp: ¬(8=pp):=fun r=>by
   have:=(HQ.out.b.lim _ jr).1;omega
  clear iP ho4 hg4 e5 K4 hHeld gs gl eo x4 x6 xl xf4
  go_wp2
  go_ret
  refine⟨rfl,?_⟩
  obtain⟨w5,hw5⟩: ∃w5,w5=w4.setCell ⟨pp,4,none⟩ (.slice q4 (n+1) k4):=⟨_,rfl⟩
  rw[←hw5]
  have npp':pp∉gY (.slice qw p.W.length kw):=NE.out.2.2.2.1
  have K5:Keep [pp] w4 w5:=by rw[hw5];exact(Keep.refl _ _).setCell (p:=⟨pp,4,none⟩) (.inl sI) _
  have K14:Keep (gY (.slice qw p.W.length kw)) w1 w4:=by rw[←EO.out];exact HK4.out
  have KA:Keep (pws pp bt bg (.slice qw p.W.length kw)) w w5:=((K1.out.mono (fun s r=>by simp at r;subst r;exact jr)).then (K14.mono fun s r=>yE r)).then (K5.mono (fun s r=>by simp at r;subst r;exact jr))
  have n5:(n+1)=(p.W++[p.last+1]).length:=by rw[EN.out];simp
  have hw': ∀y∈gY (.slice q4 (n+1) k4),y∈gY (.slice qw p.W.length kw)∨(w.heap.size≤y∧y<w5.heap.size):=fun y hy=>by
   rcases HVN.out y hy with r|r
   ·rw[EO.out] at r;exact .inl r
   ·have:=K1.out.size
    have h2:y<w4.heap.size:=(HOWN.out.lt y (j6.1 hy)).2
    have:=K5.size
    exact .inr ⟨om,om⟩
  have k15: ∀{b:Nat},b≠pp→b∉gY (.slice qw p.W.length kw)→b∉[pp]:=fun h1 _ r=>by simp at r;exact h1 r
  refine HQ.out.putW (vw':=.slice q4 (n+1) k4) KA hw' ?_ ?_ ?_ ?_ rfl rfl HIN.out
  ·rw[hw5]
   have:=(L1.out.keep K14 npp').store 4 (.slice q4 (n+1) k4) (by simp[iD])
   rw[EL.out] at this
   exact this
  ·exact((HQ.out.b.t.keep K1.out (by simp;exact fun r=>NE.out.1 r.symm)).keep K14 NE.out.2.2.2.2.1).keep K5 (by simp;exact fun r=>NE.out.1 r.symm)
  ·have:=gZ HOWN.out K5 (fun s r t=>by
    simp at r;subst r
    rcases HVN.out _ t with r|r
    ·rw[EO.out] at r;exact npp' r
    ·have:=K1.out.size;have:=(HQ.out.b.lim _ jr).2;omega)
   rw[←n5,show ints (p.W++[p.last+1])=ints p.W++[.int .i64 (L+1)] by rw[EL.out];simp[ints]]
   exact this
  ·exact((HQ.out.b.g.keep K1.out (by simp;exact fun r=>NE.out.2.1 r.symm)).keep K14 NE.out.2.2.2.2.2).keep K5 (by simp;exact fun r=>NE.out.2.1 r.symm)
def o7 (p:Po) (k v:Int):Nat:=if kV p k=true∧wQ p v=true then 0 else 2
theorem nI (k v:Int) (h:PoX E X F pp p w):
 Calls Tryz.prog 155 #[.pointer (some ⟨pp,0,none⟩),.int .i64 k,.int .i64 v] w fun r w'=>r= .returned (iJ ev (o7 p k v))∧Below w.heap.size w w':=by
 have HX:=ah h
 obtain⟨⟨bt,bg,vr,vw,q⟩,hi⟩:=h
 have HE:=ah (E.err.go (E.bel q.s))
 have c0:=q.b.c.c 0 _ rfl;have cl:=q.b.c.lt
 have WK:=ah (E.work q.s)
 have CA:=ah (E.cache q.s)
 have ZO:=ah (E.zone q.s)
 have FR:=ah (E.free v q.s)
 have e2:iJ ev 2= .iface 434 (.pointer (some (ev 2))):=rfl
 have gs:w.cell? ⟨1,0,none⟩=some (.iface 434 (.pointer (some (ev 2)))):=HE.out.cell 2 (by decide) (by decide)
 have gl:1<w.heap.size:=aF (HE.out.glob 2 (by decide) (by decide)) HE.out.size
 unfold o7 kV wQ
 obtain⟨n,hn⟩: ∃n,n=p.d.H.length:=⟨_,rfl⟩
 obtain⟨m,hm⟩: ∃m,m=p.d.c.L.length:=⟨_,rfl⟩
 rw[←hn] at WK ⊢
 rw[←hm] at FR ⊢
 clear q hi hn hm
 by_cases hk:0≤k∧k<n
 ·have d1:decide (k<0)=false:=decide_eq_false om
  have d2:decide ((n:Int)≤k)=false:=decide_eq_false om
  have ec:(if decide (0≤k∧k<(n:Int))=true∧decide (0≤v∧v<(m:Int))=true then 0 else 2)=(if 0≤v∧v<(m:Int) then 0 else 2):=by simp[hk]
  rw[ec]
  obtain⟨r,hr⟩: ∃r,r=iJ ev (if 0≤v∧v<(m:Int) then 0 else 2):=⟨_,rfl⟩
  rw[←hr] at FR ⊢
  clear hr ec hk
  go_enter Tryz.func155,Tryz.ntmps155
  go_wp2_with fail
  refine WK.out.mono ?_
  rintro r1 w1 ⟨rfl,rfl⟩
  go_wp2_with fail
  refine CA.out.mono ?_
  rintro r1 w1 ⟨rfl,rfl⟩
  go_wp2_with fail
  refine ZO.out.mono ?_
  rintro r1 w1 ⟨rfl,rfl⟩
  go_wp2_with fail
  refine FR.out.mono ?_
  rintro r1 w1 ⟨⟨z,rfl⟩,hb1⟩
  go_wp2
  go_ret
  exact⟨rfl,hb1⟩
 ·have ec:(if decide (0≤k∧k<(n:Int))=true∧decide (0≤v∧v<(m:Int))=true then 0 else 2)=2:=by simp[hk]
  rw[ec,e2]
  have hd:(k<0∧decide (k<0)=true)∨(¬k<0∧decide (k<0)=false∧decide ((n:Int)≤k)=true):=by
   by_cases h0:k<0
   ·exact .inl ⟨h0,decide_eq_true h0⟩
   ·exact .inr ⟨h0,decide_eq_false h0,decide_eq_true om⟩
  clear ec hk e2
  rcases hd with⟨h0,d0⟩|⟨h0,d0,d1⟩
  ·go_enter Tryz.func155,Tryz.ntmps155
   go_wp2
   go_ret
   exact⟨rfl,aU _ _⟩
  ·go_enter Tryz.func155,Tryz.ntmps155
   go_wp2_with fail
   refine WK.out.mono ?_
   rintro r1 w1 ⟨rfl,rfl⟩
   go_wp2
   go_ret
   exact⟨rfl,aU _ _⟩
theorem lZ (h:PoX E X F pp p w):
 Calls Tryz.prog 52 #[.pointer (some ⟨pp,0,none⟩)] w fun r w'=>(∃q k,r= .returned (.slice q p.W.length k)∧w'.ownsRow w.heap.size 3 1 (.slice q p.W.length k) p.W.length (ints p.W))∧Below w.heap.size w w':=by
 obtain⟨⟨bt,bg,vr,vw,q⟩,hi⟩:=h
 have c4:=q.b.c.c 4 _ rfl;have cl:=q.b.c.lt
 have CL:=ah (wT vw p.W w q.b.ow (by have:=hi.w;omega))
 obtain⟨qw,kw,rfl⟩:=nH q.b.ow
 obtain⟨n,hn⟩: ∃n,n=p.W.length:=⟨_,rfl⟩
 rw[←hn] at CL c4 ⊢
 clear q hi hn
 go_enter Tryz.func52,Tryz.ntmps52
 go_wp2_with fail
 refine CL.out.mono ?_
 rintro r1 w1 ⟨q1,k1,rfl,ho,hb1⟩
 go_wp2
 go_ret
 exact⟨⟨q1,k1,rfl,ho⟩,hb1⟩
theorem oK (h:PoX E X F pp p w):
 Calls Tryz.prog 53 #[.pointer (some ⟨pp,0,none⟩)] w fun r w'=>r= .returned (.int .i64 p.R.length)∧w'=w:=by
 obtain⟨⟨bt,bg,vr,vw,q⟩,hi⟩:=h
 have c2:=q.b.c.c 2 _ rfl;have cl:=q.b.c.lt
 obtain⟨qr,kr,rfl,_,_⟩:=q.b.r.isSlice
 obtain⟨n,hn⟩: ∃n,n=p.R.length:=⟨_,rfl⟩
 rw[←hn] at c2 ⊢
 clear q hi hn
 go_enter Tryz.func53,Tryz.ntmps53
 go_wp2
 go_ret
 exact⟨rfl,rfl⟩
end
end
section
open Go.RowKit Go.ChangeShapes
def nmES:String:=match Rows.laid_slabyard_api_ErrBound (H:=Unit) with| .iface n _=>n|_=> ""
def sentD (text:List UInt8):DataW Unit:=.iface nmES (.ptr (.agg [.lit (.string text)]))
def sentT:DataW Unit→List UInt8| .iface _ (.ptr (.agg [.lit (.string t)]))=>t|_=>[]
theorem Bj {P:Program} {W:World} {ti tp te ts:TypeId} {ms:Array (String×TypeId)} {f:Field}
 (hi:P.underlying ti=some (.interface ms)) (hrow: ∀u,P.typeName? 3 u=some nmES→u=tp)
 (hp:P.underlying tp=some (.pointer te)) (he:P.underlying te=some (.struct #[f])) (hft:f.type=ts) (hfo:f.offset=0) (hs:P.underlying ts=some .string) (hc:P.cellsOf te=1) (hcs:P.cellsOf ts=1):
 ∀(l:List (String×List UInt8)) (ps:List MemPlace),(∀x∈l,∃g,P.globalNamed x.1=some g∧(P.globals[g]?).map (·.type)=some ti)→
  DataW.LaidVars P W (l.map fun x=>(x.1,sentD x.2)) ps→ps.Nodup→
  (∀b off,MemPlace.cell b off∈ps→(∃c t,W.heap[b]?=some (.cells c t (0,0)))∧∀u v,W.cell? ⟨b,off,none⟩=some (.iface u v)→Value.okWide P W .any 0 u v)→
  ∃al:List Addr,al.length=l.length∧(∀(j:Nat) (x:String×List UInt8) (a:Addr),l[j]?=some x→al[j]?=some a→W.var? P x.1=some #[.iface tp (.pointer (some a))]∧∃c t,W.heap[a.block]?=some (.cells c t (0,0)))∧
   al.Pairwise (· ≠ ·)∧∀a∈al,MemPlace.cell a.block a.off∈ps:=by
 intro l
 induction l with
 |nil=>
  intro ps _ _ _ _
  exact⟨[],rfl,fun j x a h=>by simp at h,List.Pairwise.nil,fun a h=>by simp at h⟩
 |cons x r ih=>
  intro ps hg hv hnd hrows
  obtain⟨g0,t0,cs0,f0,p0,q0,hg0,ht0,hv0,hd0,hq,e0⟩:=hv
  obtain⟨g,hgx,htx⟩:=hg x sI
  obtain rfl:=aH (hgx.symm.trans hg0)
  obtain rfl:=aH (htx.symm.trans ht0)
  subst e0
  obtain⟨l0⟩:=cs0
  have ok0: ∀u v,l0=[.iface u v]→Value.okWide P W .any 0 u v:=fun u v e=>by
   subst e
   exact(hrows g 0 (by simp[MemPlace.row])).2 u v (by simpa using World.var?_cell hg0 hv0 0)
  obtain⟨a0,s0,rfl,hc0,hs0,hz0,rfl⟩:=errorString_of_trod hi hrow hp he hft hfo hs hc hcs hd0 ok0
  obtain⟨al,hl,hall,hpw,hmem⟩:=ih q0 (fun y hy=>hg y (by simp[hy])) hq (List.Nodup.sublist (List.sublist_append_right _ _) hnd) (fun b off hm=>hrows b off (aj _ hm))
  refine⟨a0::al,by simp[hl],?_,?_,?_⟩
  ·intro j y a hy ha
   cases j with
   |zero=>
    simp at hy ha
    subst hy;subst ha
    exact⟨hv0,(hrows a0.block a0.off (by simp[MemPlace.row])).1⟩
   |succ j=>exact hall j y a (by simpa using hy) (by simpa using ha)
  ·refine aZ.2 ⟨fun b hb e=> ?_,hpw⟩
   subst e
   have h1:=hmem a0 hb
   have h2:=(aX.1 hnd).2.2 (MemPlace.cell a0.block a0.off) (by simp[MemPlace.row]) _ h1
   exact h2 rfl
  ·intro a ha
   rcases aB.1 ha with rfl|ha
   ·simp[MemPlace.row]
   ·exact aj _ (hmem a ha)
theorem one_row: ∀u,Tryz.prog.typeName? 3 u=some nmES→u=434:=fun u h=>
 typeName_ptr_named (nm:= "errors.errorString") kR kR (by decide) u (h.trans kR)
theorem cells_es:Tryz.prog.cellsOf 454=1:=kR
theorem DT:Tryz.prog.cellsOf 9=1:=kR
noncomputable def DU (x:String×List UInt8):Bool:=match Tryz.prog.globalNamed x.1 with|some g=>(Tryz.prog.globals[g]?).map (·.type)==some 33|none=>false
theorem Bl {x:String×List UInt8} (h:DU x=true): ∃g,Tryz.prog.globalNamed x.1=some g∧(Tryz.prog.globals[g]?).map (·.type)=some 33:=by
 unfold DU at h
 cases e:Tryz.prog.globalNamed x.1 with
 |none=>rw[e] at h;cases h
 |some g=>rw[e] at h;exact⟨g,rfl,by simpa using h⟩
theorem sents_of (l:List (String×List UInt8)) (hl:l.all DU=true) {W:World} (h:laidMet Tryz.prog (l.map fun x=>(x.1,sentD x.2)) W):
 ∃al:List Addr,al.length=l.length∧(∀(j:Nat) (x:String×List UInt8) (a:Addr),l[j]?=some x→al[j]?=some a→W.var? Tryz.prog x.1=some #[.iface 434 (.pointer (some a))]∧∃c t,W.heap[a.block]?=some (.cells c t (0,0)))∧
  al.Pairwise (· ≠ ·):=by
 obtain⟨ps,hv,hnd,hrows⟩:=h
 obtain⟨al,h1,h2,h3,_⟩:=Bj gG one_row Tryz.underlying434 Tryz.underlying454 rfl rfl Tryz.underlying9 cells_es DT l ps (fun x hx=>Bl (dG.1 hl x hx)) hv hnd hrows
 exact⟨al,h1,h2,h3⟩
theorem lt_of_cell {W:World} {a:Addr} {v:Value} (h:W.cell? a=some v):a.block<W.heap.size:=by
 rcases dx a.block W.heap.size with h'|h'
 ·exact h'
 ·simp[World.cell?,dS h'] at h
theorem DV {W:World} {b:Nat} {o:Obj} (h:W.heap[b]?=some o):b<W.heap.size:=(fH.1 h).1
theorem q8 {H:Type} {enc:TypeId×Value→H} {P:Program} (hl:laidOutB P=true) {W W':World} (hb:Below W.heap.size W W'):
 ∀{ts:List TypeId} {vs:List Value} {ds:List (DataW H)} {ps:List MemPlace},(∀t∈ts,P.readableRec t=true∧t<P.types.size)→
  DataW.TrodAll enc P W 0 (fun _=>true) true ts vs ds ps→(∀x∈ps,x.block<W.heap.size)→DataW.TrodAll enc P W' 0 (fun b=>decide (b<W.heap.size)) true ts vs ds ps
 |[],[],[],_,_,h,_=>h
 |t::ts,_::vs,_::ds,_,hts,⟨p,q,h,hs,e⟩,hlt=>by
  subst e
  exact⟨p,q,Below.trod hl (hts t sI).1 (hts t sI).2 h hb (fun x hx=>hlt x (av _ hx)),
   q8 hl hb (fun u hu=>hts u (by simp[hu])) hs (fun x hx=>hlt x (aj _ hx)),rfl⟩
theorem qL {H:Type} {enc:TypeId×Value→H} {P:Program} {W:World} {sp:Nat→Bool} {gs:List (DataW H)} {q:List MemPlace} (h:DataW.TrodVars enc P W sp [] gs q):gs=[]∧q=[]:=by
 cases gs with
 |nil=>exact⟨rfl,h⟩
 |cons g r=>exact absurd h (by intro h;cases h)
theorem law_post {H:Type} {enc:TypeId×Value→H} {f:Func} {s:ChangeSpec} {W W':World} {args:Array Value} {ds:List (DataW H)} {before:List MemPlace} {handsOn:Bool}
 (hv:s.vars=[]) (hf:s.fn H (ds++[])={results:=[.lit (.bool true)],args:=ds}) (hr:f.resultTypes.toList=[4])
 (hts: ∀t∈f.params.toList,Tryz.prog.readableRec t=true∧t<Tryz.prog.types.size) {apart:Bool}
 (hW:DataW.Whole enc Tryz.prog f.params.toList s.vars apart W args.toList ds [] before) (hb:Below W.heap.size W W') (fresh:Bool):
 s.post enc Tryz.prog f apart fresh handsOn false W args (.bool true) W':=by
 have hW':=hW
 obtain⟨p,q,hA,hV,rfl,_,_⟩:=hW
 rw[hv] at hV
 obtain⟨_,rfl⟩:=qL hV
 have hrs:f.resultTypes.size=1:=by rw[←Array.length_toList,hr];rfl
 refine⟨ds,[],p++[],[],p,[],hW',?_,?_,?_,hb.frame _,fun h=>by cases h⟩
 ·rw[hf,hr,hrs]
  exact trodAll_mk1 (shut_bool Tryz.underlying4 true)
 ·rw[hf]
  exact q8 kR hb hts hA (fun x hx=>by simpa using hW'.lt x (by simpa using hx))
 ·rw[hf,hv];rfl
end
section
open Go.RowKit Go.ChangeShapes
def lS:List (String×List UInt8):=(Rows.slabActsRow.laid.drop 1).map fun x=>(x.1,sentT x.2)
theorem DW:(Rows.slabActsRow.laid.filter fun x=>x.2.handleName?.isNone)=lS.map fun x=>(x.1,sentD x.2):=kR
theorem DX:(Rows.slabActsRow.laid.filter fun x=>x.2.handleName?.isSome)=Rows.slabActsRow.laid.take 1:=kR
def hd1:String×DataW Unit:=Rows.slabActsRow.laid.headD ("",.nil)
theorem take1:Rows.slabActsRow.laid.take 1=[hd1]:=rfl
def hName:List UInt8:=[101,114,114,111,114]
theorem typ_name (x:String×DataW Unit) (hx:x∈Rows.slabActsRow.laid.take 1):x.2.funcsIn?=none∧x.2.handleName?=some hName∧Tryz.prog.globalNamed x.1=some 10:=by
 rw[take1] at hx
 obtain rfl:=dJ.1 hx
 exact⟨kR,kR,kR⟩
theorem one_type:((List.range Tryz.prog.types.size).filter fun t=>Tryz.prog.rowNamed t hName)=[33]:=kR
theorem x9 {W:World} (h:laidMetH Tryz.prog Rows.slabActsRow.laid W): ∃ev,mg W.heap.size ev W:=by
 have h':laidMet Tryz.prog (lS.map fun x=>(x.1,sentD x.2)) W∧handlesMet Tryz.prog (Rows.slabActsRow.laid.take 1) W:=by
  unfold laidMetH at h
  rw[DX,DW] at h
  exact h
 obtain⟨hS,hH⟩:=h'
 obtain⟨al,h1,h2,h3⟩:=sents_of lS kR hS
 have htyp:W.cell? ⟨10,0,none⟩=some (.iface 391 (.agg #[.pointer (some ⟨11,33,none⟩)])):=by
  have hx:hd1∈Rows.slabActsRow.laid.take 1:=by rw[take1];exact dJ.2 rfl
  obtain⟨n1,n2,n3⟩:=typ_name _ hx
  have:=hH _ hx
  rw[n1] at this
  obtain⟨name,u,ty,e1,e2,e3,e4,e5⟩:=this
  rw[n2] at e1
  obtain rfl:=aH e1
  have hm:ty∈(List.range Tryz.prog.types.size).filter fun t=>Tryz.prog.rowNamed t hName:=bH.2 ⟨dI.2 e3,e4⟩
  rw[one_type] at hm
  obtain rfl:=dJ.1 hm
  have hh:typeHandle Tryz.prog 33= .pointer (some ⟨11,33,none⟩):=kR
  rw[hh] at e5
  have hu:u=391:=by
   have e6:=e2.symm
   have: ∀{y:Option TypeId},y=some 391→some u=y→u=391:=fun a b=>aH (b.trans a)
   exact this kR e6
  subst hu
  simpa using World.var?_cell n3 e5 0
 match al,h1,h2,h3 with
 |[a1,a2,a3,a4,a5,a6,a7,a8,a9,a10],_,h2,h3=>
  have g: ∀(i:Nat),1≤i→i≤10→∃x a,lS[i-1]?=some x∧[a1,a2,a3,a4,a5,a6,a7,a8,a9,a10][i-1]?=some a∧Tryz.prog.globalNamed x.1=some (errG i):=by
   intro i i1 i2
   match i,i1,i2 with
   |1,_,_=>exact⟨_,_,rfl,rfl,kR⟩
   |2,_,_=>exact⟨_,_,rfl,rfl,kR⟩
   |3,_,_=>exact⟨_,_,rfl,rfl,kR⟩
   |4,_,_=>exact⟨_,_,rfl,rfl,kR⟩
   |5,_,_=>exact⟨_,_,rfl,rfl,kR⟩
   |6,_,_=>exact⟨_,_,rfl,rfl,kR⟩
   |7,_,_=>exact⟨_,_,rfl,rfl,kR⟩
   |8,_,_=>exact⟨_,_,rfl,rfl,kR⟩
   |9,_,_=>exact⟨_,_,rfl,rfl,kR⟩
   |10,_,_=>exact⟨_,_,rfl,rfl,kR⟩
  generalize hl:[a1,a2,a3,a4,a5,a6,a7,a8,a9,a10]=L at*
  let ev:Nat→Addr:=fun i=>L.getD (i-1) default
  have hev: ∀i,1≤i→i≤10→L[i-1]?=some (ev i):=by
   intro i i1 i2
   obtain⟨x,a,_,hb,_⟩:=g i i1 i2
   show L[i-1]?=some (L.getD (i-1) default)
   rw[dz,hb];rfl
  have hcell: ∀i,1≤i→i≤10→W.cell? ⟨errG i,0,none⟩=some (iJ ev i):=by
   intro i i1 i2
   obtain⟨x,a,ha,hb,hg⟩:=g i i1 i2
   have e:a=ev i:=aH (hb.symm.trans (hev i i1 i2))
   subst e
   have:=World.var?_cell hg (h2 _ x _ ha hb).1 0
   rw[this]
   obtain⟨j,rfl⟩: ∃j,i=j+1:=⟨i-1,om⟩
   rfl
  have hrow: ∀i,1≤i→i≤10→∃c t,W.heap[(ev i).block]?=some (.cells c t (0,0)):=by
   intro i i1 i2
   obtain⟨x,a,ha,hb,hg⟩:=g i i1 i2
   have e:a=ev i:=aH (hb.symm.trans (hev i i1 i2))
   subst e
   exact(h2 _ x _ ha hb).2
  refine⟨ev,aI _,fun i i1 i2=>lt_of_cell (hcell i i1 i2),hcell,?_,hrow,fun i i1 i2=> ?_,lt_of_cell htyp,htyp⟩
  ·intro i j i1 i2 j1 j2 he
   have hi:=hev i i1 i2
   have hj:=hev j j1 j2
   rcases fu i j with hlt|rfl|hlt
   ·exfalso
    have:=bY.1 h3 (i-1) (j-1) (ak.1 hi).1 (ak.1 hj).1 om
    rw[(ak.1 hi).2,(ak.1 hj).2] at this
    exact this he
   ·rfl
   ·exfalso
    have:=bY.1 h3 (j-1) (i-1) (ak.1 hj).1 (ak.1 hi).1 om
    rw[(ak.1 hi).2,(ak.1 hj).2] at this
    exact this he.symm
  ·obtain⟨c,t,hr⟩:=hrow i i1 i2
   exact DV hr
end
end Go.Proofs.YtdcbhlcbiokbeaaGreatDoor
