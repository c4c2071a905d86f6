/- Lemmas and contracts for the claim's last text: STaken, RC, SFull, SFullW, SApart. -/
import Derived.Test.YtdcbhlcbiokbeaaGreatDoorSa01
import Derived.Test.YtdcbhlcbiokbeaaGreatDoorSa08
import Derived.Test.YtdcbhlcbiokbeaaGreatDoorSa10
import Derived.Test.YtdcbhlcbiokbeaaGreatDoorSa12
set_option linter.unusedSimpArgs false
set_option linter.unusedVariables false
set_option maxHeartbeats 16000000
set_option maxRecDepth 100000
namespace Go.Proofs.YtdcbhlcbiokbeaaGreatDoor
section
open Go.RowKit Go.Maps
attribute [local go_sem ↓] bA bB
structure ElS (T E:TypeId) (z:Value) (s b:Nat):Prop where
 und:Tryz.prog.underlying T=some (.slice E)
 info:(Tryz.prog.info? E).map (fun i=>(i.zero,i.size,i.bytes))=some (some z,s,b)
 one:z.cells.size=s
 pos:0<s
 few:b≤64
theorem elObj:ElS 79 49 (.agg #[.int .i64 0,.int .i64 0]) 2 16:=⟨Tryz.underlying79,kR,rfl,om,om⟩
theorem elPl:ElS 235 61 (.agg #[.int .i64 0,.int .i64 0,.int .i64 0]) 3 24:=⟨Tryz.underlying235,kR,rfl,om,om⟩
theorem zT {T E:TypeId} {z:Value} {s b:Nat} (hE:ElS T E z s b) {w:World} (ty:TypeId) {base:Nat} {v:Value} {n:Nat} {xs ms:List Value} (hown:w.ownsRow base E s v n xs) {a:Addr} {c:Nat} (hm:ms.length=s) (hc: ∀(j:Nat) (u:Value),ms[j]?=some u→w.cell? (a.add j)=some u) (h1: ∀u∈ms,u.oneCell'=true)
 (hl:n≤70000) (hb:base≤w.heap.size):
 ∃q k w',(Builtin.append_ #[T,T] ty #[v,.slice (some a) 1 c]).run Tryz.prog w= .ok (.slice q (n+1) k) w'∧w'.ownsRow base E s (.slice q (n+1) k) (n+1) (xs++ms)∧w.grownBy w' v.ownBlock:=by
 obtain⟨i0,hi,hz0,hz1,hz2⟩:=info_parts hE.info
 have hfew:=hE.few
 obtain⟨v',w',hrun,h2,h3,_,h5⟩:=run_append_own_at (P:=Tryz.prog) w base T ty E i0 z s b hE.und hi hz0 hz1 hz2 hE.one hE.pos v n xs hown a 1 c ms
  om hc h1 (by unfold maxLen;omega) (by
   have:(n+1)*b≤70001*64:=dH om hfew
   omega) hb
 have hf: ∃q k,v'= .slice q (n+1) k:=by
  rcases h2.2 with⟨e,e2⟩|⟨g',cap',cur,e,_⟩
  ·exact⟨none,0,by rw[e,e2]⟩
  ·exact⟨_,_,e⟩
 obtain⟨q,k,rfl⟩:=hf
 exact⟨q,k,w',hrun,h2,h3⟩
theorem x9 {T E:TypeId} {z:Value} {s b:Nat} (hE:ElS T E z s b) {base:Nat} {v:Value} {n:Nat} {xs ms:List Value} {w:World} {ad:Addr} {c:Nat} {ops:Array Oper} {o:Oper} {a:Act} {K:Act→World→Prop} {Q:Exit→Act→World→Prop} {F:Prop} (hgd:o.guard=none) (sl x:Operand)
 (ho:o.op= .call {callee:=.builtin .append,args:=#[sl,x],argTypes:=#[T,T]}) (hv:a.eval sl=v) (hx:a.eval x= .slice (some ad) 1 c)
 (hown:w.ownsRow base E s v n xs) (hm:ms.length=s) (hc: ∀(j:Nat) (u:Value),ms[j]?=some u→w.cell? (ad.add j)=some u) (h1: ∀u∈ms,u.oneCell'=true) (hl:n≤70000) (hb:base≤w.heap.size)
 (h: ∀q k w',w'.ownsRow base E s (.slice q (n+1) k) (n+1) (xs++ms)→w.grownBy w' v.ownBlock→K (a.put o.dst (.slice q (n+1) k)) w'):
 if Region.wanted o (yielded ops a.tmps)=true then Oper.wp Tryz.prog o a w K Q else F:=by
 have hw:Region.wanted o (yielded ops a.tmps)=true:=by simp[Region.wanted,hgd]
 rw[if_pos hw]
 obtain⟨q,k,w',hrun,h2,h3⟩:=zT hE (w:=w) o.type hown hm hc h1 hl hb (c:=c)
 unfold Oper.wp execOp
 simp only[ho,resolve,invoke,builtin,fA,fI,eF,eH,cO,fJ,hv,hx,hrun]
 exact h q k w' h2 h3
theorem sJ {T E:TypeId} {z:Value} {s b:Nat} (hE:ElS T E z s b) {base:Nat} {v:Value} {n:Nat} {xs ms:List Value} {w:World} {ad:Addr} {c:Nat} {ops:Array Oper} {rest:List Oper} {o:Oper} {a:Act} {Q:Exit→Act→World→Prop} (hgd:o.guard=none) (sl x:Operand)
 (ho:o.op= .call {callee:=.builtin .append,args:=#[sl,x],argTypes:=#[T,T]}) (hv:a.eval sl=v) (hx:a.eval x= .slice (some ad) 1 c)
 (hown:w.ownsRow base E s v n xs) (hm:ms.length=s) (hc: ∀(j:Nat) (u:Value),ms[j]?=some u→w.cell? (ad.add j)=some u) (h1: ∀u∈ms,u.oneCell'=true) (hl:n≤70000) (hb:base≤w.heap.size)
 (h: ∀q k w',w'.ownsRow base E s (.slice q (n+1) k) (n+1) (xs++ms)→w.grownBy w' v.ownBlock→wpList Tryz.prog ops Q rest (a.put o.dst (.slice q (n+1) k)) w'):wpList Tryz.prog ops Q (o::rest) a w:=by
 refine wpList_plain hgd fun K hK=> ?_
 obtain⟨q,k,w',hrun,h2,h3⟩:=zT hE (w:=w) o.type hown hm hc h1 hl hb (c:=c)
 unfold Oper.wp execOp
 simp only[ho,resolve,invoke,builtin,fA,fI,eF,eH,cO,fJ,hv,hx,hrun]
 exact hK _ _ (h q k w' h2 h3)
theorem xg (w:World) (u0 u1 u2:Value) (t:TypeId): ∀j u,[u0,u1,u2][j]?=some u→(w.alloc (.cells #[u0,u1,u2] t)).cell? ((⟨w.heap.size,0,none⟩:Addr).add j)=some u:=by
 intro j u hu
 match j,hu with
 |0,hu=>simp at hu;subst hu;simp[Addr.add]
 |1,hu=>simp at hu;subst hu;simp[Addr.add]
 |2,hu=>simp at hu;subst hu;simp[Addr.add]
def yA (e:Nat) (s:Sl) (k:Nat):List Ob:=(List.range k).filterMap fun k=>if s.T[k]?=some true then some (oQ e s k) else none
theorem vC (e:Nat) (s:Sl):yA e s s.T.length=obsS e s:=rfl
theorem zU {e:Nat} {s:Sl} {k:Nat} (h:s.T[k]?=some true):yA e s (k+1)=yA e s k++[oQ e s k]:=by
 unfold yA
 rw[List.range_succ,List.filterMap_append]
 simp[h]
theorem DN {e:Nat} {s:Sl} {k:Nat} (h:s.T[k]?=some false):yA e s (k+1)=yA e s k:=by
 unfold yA
 rw[List.range_succ,List.filterMap_append]
 simp[h]
theorem vD (e:Nat) (s:Sl) (k:Nat):(yA e s k).length≤k:=by
 unfold yA
 have:=List.length_filterMap_le (fun k=>if s.T[k]?=some true then some (oQ e s k) else none) (List.range k)
 simpa using this
theorem xk {e:Nat} {C:List Sl} {i:Nat} {s:Sl} (h:C[i]?=some s):oU e (C.take (i+1))=oU e (C.take i)++obsS e s:=by
 rw[bF,h]
 unfold oU
 simp
theorem vG {e:Nat}: ∀{C:List Sl},(∀s∈C,s.T.length≤64)→(oU e C).length≤64*C.length
 |[],_=>aQ _
 |s::C,h=>by
  have h1:=vG (e:=e) (C:=C) fun x hx=>h x (aj _ hx)
  have h2:=h s sI
  have h3:=vD e s s.T.length
  rw[vC] at h3
  have:oU e (s::C)=obsS e s++oU e C:=by simp[oU]
  rw[this,aW,dG]
  omega
def OwnO (w w':World) (v:Value) (l:List Ob):Prop:=w'.ownsRow w.heap.size 49 2 v l.length (lJ l)∧Below w.heap.size w w'
section
variable {B:Nat} {ev:Nat→Addr} {pc pz e:Nat} {mn lw hi:Int} {O:List (List Int)} {X:List Nat} {vs:Value} {A:SA} {c:Ca} {w:World}
theorem DR (h:CS B w pc pz mn lw hi O e X vs A c) (hI:jD e c):
 Calls Tryz.prog 140 #[.pointer (some ⟨pc,0,none⟩)] w fun r w'=>∃v,r= .returned v∧OwnO w w' v (oU e c.C):=by
 obtain⟨qv,kv,evs,kv1,kv2,hrow⟩:=h.ch.form
 subst evs
 have e1:=hI.e1;have e2:=hI.e2
 have few:=hI.few
 have HIN:=ah hI
 have qI:=ah hrow;have HC:=ah h.ch
 have HL64:Hid (∀s∈c.C,s.T.length≤64):=fun s hs=>by rw[hI.len s hs];unfold gP;exact bP _ _
 have c1:=h.ch.c.c 1 _ rfl;have c2:=h.ch.c.c 2 _ rfl;have cl:=h.ch.c.lt
 have ALL:Hid (c.C.take c.C.length=c.C):=by show _=_;simp
 obtain⟨nn,hnn⟩: ∃nn,nn=c.C.length:=⟨_,rfl⟩
 have EN:=ah hnn
 rw[←hnn] at c2 few kv1 ALL
 have OL:Hid (∀i,i≤nn→(oU e (c.C.take i)).length≤65536):=fun i hi=>by
  have:=vG (e:=e) (C:=c.C.take i) fun s hs=>HL64.out s (dh hs)
  rw[aU] at this
  omega
 unfold maxLen at kv2
 clear h hI hrow hnn
 go_enter Tryz.func140,Tryz.ntmps140
 go_wp2_with fail
 go_loopw [3,13] (fun ov iv wr=>∃(i:Nat),i≤nn∧iv= .int .i64 i∧Hid (wr.ownsRow w.heap.size 49 2 ov (oU e (c.C.take i)).length (lJ (oU e (c.C.take i))))∧Below w.heap.size w wr) (fun _ iv _=>nn-(intOf iv).toNat)
 case atStart=>exact⟨0,om,by go_num,aR _ _ _ _,aK _ _⟩
 case round=>
  obtain⟨i,hile,rfl,HO,hbel⟩:=hrel
  by_cases hin:i<nn
  ·obtain⟨s,hs⟩: ∃s,c.C[i]?=some s:=⟨c.C[i]'(by rw[←EN.out];exact hin),au _⟩
   obtain⟨p,hp,hsl,_⟩:=(HC.out.below hbel).at hs
   obtain⟨g,rfl,hg,hc0⟩:=qI.out i p hp
   have ck:wr.cell? ⟨g,i,none⟩=some (.pointer (some ⟨p.1,0,none⟩)):=(hbel.cell (p:=⟨g,i,none⟩) hg).trans hc0
   have gl:g<wr.heap.size:=aG hg hbel.size
   have hik:i<kv:=om
   obtain⟨d0,d1,_,d3,d4,dl,dl2⟩:=hsl.cells
   have hsm:=aA hs
   obtain⟨_,_,r3,r4⟩:=HIN.out.rng hsm
   have l64:=HL64.out s hsm
   have SW:=ah ((HC.out).sl i p s hp hs)
   have OLi:=OL.out i hile
   have SN:=ah (xk (e:=e) hs)
   have HKA:=ah (vC e s)
   obtain⟨l,hll⟩: ∃l,l=s.T.length:=⟨_,rfl⟩
   have HLL:=ah hll
   rw[←hll] at l64 d3 HKA
   clear hc0 hsl hs hp hsm hll
   go_wp2_with fail
   go_loopw [3,22] (fun ov kv wi=>∃(k:Nat),k≤l∧kv= .int .i64 k∧Hid (wi.ownsRow w.heap.size 49 2 ov ((oU e (c.C.take i)).length+(yA e s k).length) (lJ (oU e (c.C.take i)++yA e s k)))∧Below w.heap.size w wi) (fun _ kv _=>l-(intOf kv).toNat)
   case atStart=>exact⟨0,om,by go_num,(show wr.ownsRow _ _ _ _ _ _ from by have:=HO.out;simpa[yA] using this),hbel⟩
   case round=>
    obtain⟨k,hkl,rfl,HOk,hbk⟩:=hrel
    obtain⟨y0,y1,_,y3,y4,yl,yl2⟩:=(SW.out.keep (Keep.of (S:=[]) hbk) sI sI).cells
    have yb:=ah (SW.out.keep (Keep.of (S:=[]) hbk) sI sI)
    have p1:wr.cell? ⟨pc,1,none⟩=some (.int .i64 e):=(hbk.cell (p:=⟨pc,1,none⟩) cl).trans c1
    have pl:pc<wr.heap.size:=aG cl hbk.size
    by_cases hlt:k<l
    ·obtain⟨bt,hbt⟩: ∃bt,s.T[k]?=some bt:=⟨s.T[k]'(by rw[←HLL.out];exact hlt),au _⟩
     have ct:=yb.out.2.c k _ (iC hbt)
     cases bt with
     |false=>
      have KN:=ah (DN (e:=e) hbt)
      clear hbt
      go_wp2
      go_round
      case rel=>exact⟨k+1,om,by go_num,by rw[KN.out];exact HOk,hbk⟩
      case measure=>simp[intOf];omega
     |true=>
      have KN:=ah (zU (e:=e) hbt)
      have ke0:(0:Int)≤(k:Int)*(e:Int):=dW om om
      have ke1:(k:Int)*(e:Int)≤4096:=by
       have:=dH (show k≤64 by omega) e2
       have h2:((k*e:Nat):Int)≤((64*64:Nat):Int):=om
       simpa using h2
      have OLK:=vD e s k
      have HB2:=ah hbk
      have hw1:IntKind.i64.wrap (s.pg*64)=s.pg*64:=aT _ om
      have hw2:IntKind.i64.wrap ((k:Int)*(e:Int))=(k:Int)*(e:Int):=aT _ om
      have hw3:IntKind.i64.wrap (s.pg*64+(k:Int)*(e:Int))=s.pg*64+(k:Int)*(e:Int):=aT _ om
      clear hbt
      go_wp2_with fail
      refine iA (S:=(fun w'=>w'.cell? ⟨p.1,0,none⟩=some (.int .i64 s.nd)∧w'.cell? ⟨p.1,1,none⟩=some (.int .i64 s.pg)∧w'.cell? ⟨pc,1,none⟩=some (.int .i64 e))) 23 #[false,false,false,false,false,false,false,false,false,false,false,false,false,false,false,false,false,false,false,false,false,false,false] rfl kR kR (by(try dsimp only);go_keep) (fun hHeld=> ?_)
      simp only[aO,aX]
      refine ctk (i:=0) (v:= ?_) rfl (fun _ _ _ h=>h) (Or.inl ⟨rf,?_⟩) ?_
      rotate_left
      ·(intro w hSw;(try dsimp only at hSw);go_simp<;>with_reducible rfl)
      try simp only[Act.put,pA,pZ,pS]
      refine ctk (i:=1) (v:= ?_) rfl (fun _ _ _ h=>h) (Or.inl ⟨rf,?_⟩) ?_
      rotate_left
      ·(intro w hSw;(try dsimp only at hSw);go_simp<;>with_reducible rfl)
      try simp only[Act.put,pA,pZ,pS]
      refine ctk (i:=2) (v:= ?_) rfl (fun _ _ _ h=>h) (Or.inl ⟨rf,?_⟩) ?_
      rotate_left
      ·(intro w hSw;(try dsimp only at hSw);go_simp<;>with_reducible rfl)
      try simp only[Act.put,pA,pZ,pS]
      refine ctk (i:=3) (v:= ?_) rfl (fun _ _ _ h=>h) (Or.inl ⟨rf,?_⟩) ?_
      rotate_left
      ·(intro w hSw;(try dsimp only at hSw);go_simp<;>with_reducible rfl)
      try simp only[Act.put,pA,pZ,pS]
      refine ctk (i:=4) (v:= ?_) rfl (fun _ _ _ h=>h) (Or.inl ⟨rf,?_⟩) ?_
      rotate_left
      ·(intro w hSw;(try dsimp only at hSw);go_simp<;>with_reducible rfl)
      try simp only[Act.put,pA,pZ,pS]
      refine ctk (i:=5) (v:= ?_) rfl (fun _ _ _ h=>h) (Or.inl ⟨rf,?_⟩) ?_
      rotate_left
      ·(intro w hSw;(try dsimp only at hSw);go_simp<;>with_reducible rfl)
      try simp only[Act.put,pA,pZ,pS]
      refine ctk (i:=6) (v:= ?_) rfl (fun _ _ _ h=>h) (Or.inl ⟨rf,?_⟩) ?_
      rotate_left
      ·(intro w hSw;(try dsimp only at hSw);go_simp<;>with_reducible rfl)
      try simp only[Act.put,pA,pZ,pS]
      refine ctk (i:=7) (v:= ?_) rfl (fun _ _ _ h=>h) (Or.inl ⟨rf,?_⟩) ?_
      rotate_left
      ·(intro w hSw;(try dsimp only at hSw);go_simp<;>with_reducible rfl)
      try simp only[Act.put,pA,pZ,pS]
      refine ctk (i:=8) (v:= ?_) rfl (fun _ _ _ h=>h) (Or.inl ⟨rf,?_⟩) ?_
      rotate_left
      ·(intro w hSw;(try dsimp only at hSw);go_simp<;>with_reducible rfl)
      try simp only[Act.put,pA,pZ,pS]
      refine ctk (i:=9) (v:= ?_) rfl (fun _ _ _ h=>h) (Or.inl ⟨rf,?_⟩) ?_
      rotate_left
      ·(intro w hSw;(try dsimp only at hSw);go_simp<;>with_reducible rfl)
      try simp only[Act.put,pA,pZ,pS]
      refine ctk (i:=10) (v:= ?_) rfl (fun _ _ _ h=>h) (Or.inl ⟨rf,?_⟩) ?_
      rotate_left
      ·(intro w hSw;(try dsimp only at hSw);go_simp<;>with_reducible rfl)
      try simp only[Act.put,pA,pZ,pS]
      refine ctk (i:=11) (v:= ?_) rfl (fun _ _ _ h=>h) (Or.inl ⟨rf,?_⟩) ?_
      rotate_left
      ·(intro w hSw;(try dsimp only at hSw);go_simp<;>with_reducible rfl)
      try simp only[Act.put,pA,pZ,pS]
      refine ctk (i:=12) (v:= ?_) rfl (fun _ _ _ h=>h) (Or.inl ⟨rf,?_⟩) ?_
      rotate_left
      ·(intro w hSw;(try dsimp only at hSw);go_simp<;>with_reducible rfl)
      try simp only[Act.put,pA,pZ,pS]
      refine ctk (i:=13) (v:= ?_) rfl (fun _ _ _ h=>h) (Or.inl ⟨rf,?_⟩) ?_
      rotate_left
      ·(intro w hSw;(try dsimp only at hSw);go_simp<;>with_reducible rfl)
      try simp only[Act.put,pA,pZ,pS]
      refine ctk (i:=14) (v:= ?_) rfl (fun _ _ _ h=>h) (Or.inl ⟨rf,?_⟩) ?_
      rotate_left
      ·(intro w hSw;(try dsimp only at hSw);go_simp<;>with_reducible rfl)
      try simp only[Act.put,pA,pZ,pS]
      refine ctk (i:=15) (v:= ?_) rfl (fun _ _ _ h=>h) (Or.inl ⟨rf,?_⟩) ?_
      rotate_left
      ·(intro w hSw;(try dsimp only at hSw);go_simp<;>with_reducible rfl)
      try simp only[Act.put,pA,pZ,pS]
      refine ctk (i:=16) (v:= ?_) rfl (fun _ _ _ h=>h) (Or.inl ⟨rf,?_⟩) ?_
      rotate_left
      ·(intro w hSw;(try dsimp only at hSw);go_simp<;>with_reducible rfl)
      try simp only[Act.put,pA,pZ,pS]
      refine ctk (i:=17) (v:= ?_) rfl (fun _ _ _ h=>h) (Or.inl ⟨rf,?_⟩) ?_
      rotate_left
      ·(intro w hSw;(try dsimp only at hSw);go_simp<;>with_reducible rfl)
      try simp only[Act.put,pA,pZ,pS]
      refine ctk (i:=18) (v:= ?_) rfl (fun _ _ _ h=>h) (Or.inl ⟨rf,?_⟩) ?_
      rotate_left
      ·(intro w hSw;(try dsimp only at hSw);go_simp<;>with_reducible rfl)
      try simp only[Act.put,pA,pZ,pS]
      refine ctk (i:=19) (v:= ?_) rfl (fun _ _ _ h=>h) (Or.inl ⟨rf,?_⟩) ?_
      rotate_left
      ·(intro w hSw;(try dsimp only at hSw);go_simp<;>with_reducible rfl)
      try simp only[Act.put,pA,pZ,pS]
      refine ctk (i:=20) (v:= ?_) rfl (fun _ _ _ h=>h) (Or.inl ⟨rf,?_⟩) ?_
      rotate_left
      ·(intro w hSw;(try dsimp only at hSw);go_simp<;>with_reducible rfl)
      try simp only[Act.put,pA,pZ,pS]
      refine wpAnyH_ready (rs:=[21]) kR sI ?_
      refine bE (iq rfl) (fun K hK=> ?_) bH
      go_simp
      refine hK.out _ _ (by(try dsimp only);go_keep) (fun hHeld=> ?_)
      clear hK K
      try simp only[Act.put,pA,pZ,pS]
      refine wpAnyH_ready (rs:=[22]) kR sI ?_
      refine bE (iq rfl) (fun K hK=> ?_) bH
      refine x9 elObj (base:=w.heap.size) (ms:=[.int .i64 s.nd,.int .i64 (s.pg*64+(k:Int)*(e:Int))]) rf (.tmp 28) (.tmp 49) rf rf rf ((HOk.out.alloc _).drew) rfl (fun j u hj=>oZ wr _ _ _ j u hj) (p8 _ _) om (by have:=HB2.out.size;simp;omega) ?_
      intro q4 k4 w4 iy hg4
      have hb4:Below w.heap.size w w4:=(HB2.out.alloc (by have:=HB2.out.size;simpa using this) _).drew.grown hg4 (by have:=HB2.out.size;simp;omega) (fun r hr=>(HOk.out.lt r hr).1)
      obtain⟨z0,z1,_,_,_,zl,_⟩:=(SW.out.keep (Keep.of (S:=[]) hb4) sI sI).cells
      have zp:w4.cell? ⟨pc,1,none⟩=some (.int .i64 e):=(hb4.cell (p:=⟨pc,1,none⟩) cl).trans c1
      refine hK.out _ _ (by(try dsimp only);go_keep) (fun hHeld=> ?_)
      clear hK K
      try simp only[Act.put,pA,pZ,pS]
      refine wpAnyH_done kR ?_ _
      simp only[lU,aP,aV]
      go_wp2
      go_round
      case rel=>
       refine⟨k+1,om,by go_num,?_,hb4⟩
       show World.ownsRow _ _ _ _ _ _ _
       rw[KN.out,aW,←fU,←bY,l6]
       exact iy
      case measure=>simp[intOf];omega
    ·obtain rfl:k=l:=by omega
     go_wp2
     go_round
     case rel=>
      refine⟨i+1,om,by go_num,?_,hbk⟩
      show World.ownsRow _ _ _ _ _ _ _
      have:=HOk.out
      rw[HKA.out,←aW,←SN.out] at this
      exact this
     case measure=>simp[intOf];omega
  ·obtain rfl:i=nn:=by omega
   have HO':=HO.out
   rw[ALL.out] at HO'
   have HOO:=ah HO'
   clear HO HO'
   go_wp2
   go_ret
   exact⟨_,rfl,HOO.out,hbel⟩
def yB (l:List Pl):List Value:=l.flatMap fun p=>[.int .i64 p.1,.int .i64 p.2.1,.int .i64 p.2.2]
theorem xq (l:List Pl) (p:Pl):yB (l++[p])=yB l++[.int .i64 p.1,.int .i64 p.2.1,.int .i64 p.2.2]:=by simp[yB]
theorem sK {C:List Sl} {i:Nat} {s:Sl} (h:C[i]?=some s):jm (C.take (i+1))=jm (C.take i)++[(s.nd,s.pg,0)]:=by
 rw[bF,h]
 unfold jm
 simp
theorem AY (C:List Sl):(jm C).length=C.length:=by unfold jm;simp
theorem DT (h:CS B w pc pz mn lw hi O e X vs A c) (hI:jD e c):
 Calls Tryz.prog 137 #[.pointer (some ⟨pc,0,none⟩)] w fun r w'=>∃q k,r= .returned (.slice q c.C.length k)∧w'.ownsRow w.heap.size 61 3 (.slice q c.C.length k) c.C.length (yB (jm c.C))∧Below w.heap.size w w':=by
 obtain⟨qv,kv,evs,kv1,kv2,hrow⟩:=h.ch.form
 subst evs
 have few:=hI.few
 have qI:=ah hrow;have HC:=ah h.ch
 have c2:=h.ch.c.c 2 _ rfl;have cl:=h.ch.c.lt
 have ALL:Hid (c.C.take c.C.length=c.C):=by show _=_;simp
 obtain⟨nn,hnn⟩: ∃nn,nn=c.C.length:=⟨_,rfl⟩
 have EN:=ah hnn
 rw[←hnn] at c2 few kv1 ALL ⊢
 unfold maxLen at kv2
 clear h hI hrow hnn
 go_enter Tryz.func137,Tryz.ntmps137
 go_wp2_with fail
 go_loopw [3,11] (fun ov iv wr=>∃(i:Nat) (q:Option Addr) (k:Nat),i≤nn∧iv= .int .i64 i∧ov= .slice q i k∧Hid (wr.ownsRow w.heap.size 61 3 (.slice q i k) i (yB (jm (c.C.take i))))∧Below w.heap.size w wr) (fun _ iv _=>nn-(intOf iv).toNat)
 case atStart=>exact⟨0,none,0,om,by go_num,rfl,aR _ _ _ _,aK _ _⟩
 case round=>
  obtain⟨i,q,k,hile,rfl,rfl,HO,hbel⟩:=hrel
  by_cases hin:i<nn
  ·obtain⟨s,hs⟩: ∃s,c.C[i]?=some s:=⟨c.C[i]'(by rw[←EN.out];exact hin),au _⟩
   obtain⟨p,hp,hsl,_⟩:=(HC.out.below hbel).at hs
   obtain⟨g,rfl,hg,hc0⟩:=qI.out i p hp
   have ck:wr.cell? ⟨g,i,none⟩=some (.pointer (some ⟨p.1,0,none⟩)):=(hbel.cell (p:=⟨g,i,none⟩) hg).trans hc0
   have gl:g<wr.heap.size:=aG hg hbel.size
   have hik:i<kv:=om
   obtain⟨d0,d1,d2,d3,d4,dl,dl2⟩:=hsl.cells
   have SN:=ah (sK hs)
   have HB:=ah hbel
   clear hc0 hsl hs hp
   go_wp2_with (first|(at_builtin;refine sJ elPl (base:=w.heap.size) (v:=.slice q i k) (n:=i) (ms:=[.int .i64 s.nd,.int .i64 s.pg,.int .i64 0]) rf (.tmp 15) (.tmp 20) rf rf rf (HO.out.alloc _) rfl (xg _ _ _ _ _) (by intro u hu;simp at hu;rcases hu with rfl|rfl|rfl<;>rfl) om (by have:=HB.out.size;simp;omega) ?_;intro q4 k4 w4 iy hg4))
   have hb4:Below w.heap.size w w4:=(HB.out.alloc (by have:=HB.out.size;simpa using this) _).grown hg4 (by have:=HB.out.size;simp;omega) (fun r hr=>(HO.out.lt r hr).1)
   have HO4:=ah iy
   clear iy hg4
   go_wp2
   go_round
   case rel=>exact⟨i+1,q4,k4,om,by go_num,rfl,(show World.ownsRow _ _ _ _ _ _ _ by rw[SN.out,xq];exact HO4.out),hb4⟩
   case measure=>simp[intOf];omega
  ·obtain rfl:i=nn:=by omega
   have HO':=HO.out
   rw[ALL.out] at HO'
   have HOO:=ah HO'
   clear HO HO'
   go_wp2
   go_ret
   exact⟨_,_,rfl,HOO.out,hbel⟩
end
end
section
open Go.RowKit Go.Maps
attribute [local go_sem ↓] bA bB
def Ba (s:Sl) (gt:Nat):List Value:=[.int .i64 s.nd,.int .i64 s.pg,.int .i64 0,.slice (some ⟨gt,0,none⟩) s.T.length s.T.length]
def RSl (w:World) (p:Nat×Nat) (s:Sl):Prop:=gH w p.1 (Ba s p.2)∧gH w p.2 (bools s.T)
def vO (pc:Nat) (A:SA):List Nat:=pc::ay A
structure RCB (X:List Nat) (w:World) (pc pm e:Nat) (v:Value) (A:SA) (C:List Sl):Prop where
 c:gH w pc [.pointer (some ⟨pm,0,none⟩),.int .i64 e,v]
 row:j6 X w v (gJ A)
 len:A.length=C.length
 sl: ∀(i:Nat) (p:Nat×Nat) (s:Sl),A[i]?=some p→C[i]?=some s→RSl w p s
 mem: ∀y∈vO pc A,y∈X
 nd:(vO pc A).Nodup
 vn:v= .slice none 0 0∨∃g n k,v= .slice (some ⟨g,0,none⟩) n k
section
variable {X Y S M:List Nat} {w w':World} {pc pm gN e:Nat} {mn lw hi:Int} {O:List (List Int)} {v v':Value} {A A':SA} {C:List Sl} {c:Ca} {L':List Nd}
theorem RSl.keep {p:Nat×Nat} {s:Sl} (h:RSl w p s) (k:Keep S w w') (h1:p.1∉S) (h2:p.2∉S):RSl w' p s:=⟨h.1.keep k h1,h.2.keep k h2⟩
theorem RSl.below {p:Nat×Nat} {s:Sl} (h:RSl w p s) (k:Below w.heap.size w w'):RSl w' p s:=h.keep (Keep.of (S:=[]) k) sI sI
theorem RSl.cells {p:Nat×Nat} {s:Sl} (h:RSl w p s):w.cell? ⟨p.1,0,none⟩=some (.int .i64 s.nd)∧w.cell? ⟨p.1,1,none⟩=some (.int .i64 s.pg)∧w.cell? ⟨p.1,2,none⟩=some (.int .i64 0)∧w.cell? ⟨p.1,3,none⟩=some (.slice (some ⟨p.2,0,none⟩) s.T.length s.T.length)∧p.1<w.heap.size∧p.2<w.heap.size:=
 ⟨h.1.c 0 _ rfl,h.1.c 1 _ rfl,h.1.c 2 _ rfl,h.1.c 3 _ rfl,h.1.lt,h.2.lt⟩
theorem sM {i:Nat} {p:Nat×Nat} (h:A[i]?=some p):p.1∈ay A∧p.2∈ay A:=⟨jq.2 ⟨p,aA h,.inl rfl⟩,jq.2 ⟨p,aA h,.inr rfl⟩⟩
theorem RCB.lt (h:RCB X w pc pm e v A C): ∀y∈vO pc A,y<w.heap.size:=fun y hy=>by
 rcases aC.1 hy with rfl|q
 ·exact h.c.lt
 ·obtain⟨p,hp,hy⟩:=jq.1 q
  obtain⟨i,hi⟩:=bV hp
  have hl:=(ak.1 hi).1
  obtain⟨s,hs⟩: ∃s,C[i]?=some s:=⟨C[i]'(by rw[←h.len];exact hl),au _⟩
  have:=h.sl i p s hi hs
  rcases hy with rfl|rfl
  ·exact this.1.lt
  ·exact this.2.lt
theorem RCB.keep (h:RCB X w pc pm e v A C) (k:Keep S w w') (hs: ∀s∈S,s∉vO pc A∧(s∈X∨w.heap.size≤s)):RCB X w' pc pm e v A C:=
 ⟨h.c.keep k (fun q=>(hs _ q).1 (aD ..)),h.row.keep k (fun s q=>(hs s q).2),h.len,fun i p s hp hs'=>(h.sl i p s hp hs').keep k (fun q=>(hs _ q).1 (aj _ (sM hp).1)) (fun q=>(hs _ q).1 (aj _ (sM hp).2)),h.mem,h.nd,h.vn⟩
theorem RCB.more (h:RCB X w pc pm e v A C) (hX: ∀x∈X,x∈Y) (hY: ∀y∈Y,y∈X∨w.heap.size≤y):RCB Y w pc pm e v A C:=
 ⟨h.c,h.row.more hY,h.len,h.sl,fun y hy=>hX y (h.mem y hy),h.nd,h.vn⟩
theorem RCB.at (h:RCB X w pc pm e v A C) {i:Nat} {s:Sl} (hs:C[i]?=some s): ∃p,A[i]?=some p∧RSl w p s:=by
 have hl:=(ak.1 hs).1
 obtain⟨p,hp⟩: ∃p,A[i]?=some p:=⟨A[i]'(by rw[h.len];exact hl),au _⟩
 exact⟨p,hp,h.sl i p s hp hs⟩
theorem own_vn {B n:Nat} {E:TypeId} {s:Nat} {xs:List Value} (h:w.ownsRow B E s v n xs):v= .slice none 0 0∨∃g n k,v= .slice (some ⟨g,0,none⟩) n k:=by
 rcases h.2 with⟨e,_⟩|⟨g,cap,cur,e,_⟩
 ·exact .inl e
 ·exact .inr ⟨g,n,cap,e⟩
theorem RCB.form (h:RCB X w pc pm e v A C): ∃q k,v= .slice q C.length k∧C.length≤k∧k≤maxLen∧∀(j:Nat) (p:Nat×Nat),A[j]?=some p→∃g o,q=some ⟨g,o,none⟩∧g<w.heap.size∧w.cell? ⟨g,o+j,none⟩=some (.pointer (some ⟨p.1,0,none⟩)):=by
 obtain⟨q,k,e,h1,h2,h3⟩:=h.row.form
 rw[iX,h.len] at e h1
 refine⟨q,k,e,h1,h2,fun j p hp=> ?_⟩
 obtain⟨g,o,e1,_,e2,e3⟩:=h3 j _ (sG hp)
 exact⟨g,o,e1,e2,e3⟩
theorem RCB.use (h:RCB X w pc pm e v A C) {i:Nat} {p:Nat×Nat} {s:Sl} (hp:A[i]?=some p) (hC:C[i]?=some s) {k:Nat} (b:Bool) (hk:k<s.T.length):
 RCB X (w.setCell ⟨p.2,k,none⟩ (.bool b)) pc pm e v A (C.set i (jc s k b)):=by
 have kk:Keep [p.2] w (w.setCell ⟨p.2,k,none⟩ (.bool b)):=(Keep.refl _ _).setCell (p:=⟨p.2,k,none⟩) (.inl sI) _
 obtain⟨n0,n1⟩:=bL.1 h.nd
 have hpc:pc≠p.2:=fun q=>n0 (q▸(sM hp).2)
 have pX:p.2∈X:=h.mem _ (aj _ (sM hp).2)
 refine⟨h.c.keep kk (by simpa using hpc),h.row.keep kk (fun s q=>by simp at q;subst q;exact .inl pX),by simp[h.len],fun j r t hr ht=> ?_,h.mem,h.nd,h.vn⟩
 have il:=(ak.1 hC).1
 by_cases q:i=j
 ·subst q
  rw[hp] at hr
  obtain rfl:=aI hr
  rw[bD il] at ht
  obtain rfl:=aI ht
  have h0:=h.sl i p s hp hC
  have ne:=uq n1 hp
  refine⟨?_,?_⟩
  ·have e1:Ba (jc s k b) p.2=Ba s p.2:=by simp[Ba,jc]
   rw[e1];exact h0.1.keep kk (by simpa using ne)
  ·show gH _ p.2 (bools (s.T.set k b))
   rw[wT]
   exact h0.2.store k _ (by rw[iJ];exact hk)
 ·rw[d9 q] at ht
  have nn:=zP n1 hp hr q
  exact(h.sl j r t hr ht).keep kk (fun q=>nn.2.2.1 (aZ.1 q).symm) (fun q=>nn.2.2.2 (aZ.1 q).symm)
theorem RCB.put (h:RCB X w pc pm e v A C) {C':List Sl} (hw:w'=w.setCell ⟨pc,2,none⟩ v') (hr:j6 X w v' (gJ A')) (hl:A'.length=C'.length) (hsl: ∀(i:Nat) (p:Nat×Nat) (s:Sl),A'[i]?=some p→C'[i]?=some s→RSl w p s) (hm: ∀y∈ay A',y∈X) (hn:(vO pc A').Nodup) (hv:v'= .slice none 0 0∨∃g n k,v'= .slice (some ⟨g,0,none⟩) n k):
 RCB X w' pc pm e v' A' C':=by
 have kk:Keep [pc] w w':=by rw[hw];exact(Keep.refl _ _).setCell (p:=⟨pc,2,none⟩) (.inl sI) _
 have pX:pc∈X:=h.mem _ (aD ..)
 obtain⟨n0,n1⟩:=bL.1 hn
 refine⟨?_,hr.keep kk (fun s q=>by simp at q;subst q;exact .inl pX),hl,fun i p s hp hs=>(hsl i p s hp hs).keep kk (fun q=>n0 (aZ.1 q▸(sM hp).1)) (fun q=>n0 (aZ.1 q▸(sM hp).2)),fun y hy=> ?_,hn,hv⟩
 ·have:=h.c.store 2 v' sI
  rw[←hw] at this
  exact this
 ·rcases aC.1 hy with rfl|q
  ·exact pX
  ·exact hm y q
structure RC (X:List Nat) (w:World) (pc pm gN e:Nat) (mn lw hi:Int) (O:List (List Int)) (M:List Nat) (v:Value) (A:SA) (c:Ca):Prop where
 z:RZ X w pm gN mn lw hi O M c.L
 b:RCB X w pc pm e v A c.C
 ne: ∀y∈vO pc A,y≠pm∧y≠gN∧y∉M
def rcs (pc pm gN:Nat) (A:SA) (M:List Nat):List Nat:=vO pc A++pm::gN::M
theorem RZ.memM {L:List Nd} (h:RZ X w pm gN mn lw hi O M L) {m:Nat} (hm:m∈M):m∈X:=by
 obtain⟨i,hi⟩:=bV hm
 have hl:=(ak.1 hi).1
 obtain⟨vF,vT,hb⟩:=h.bud i m _ hi (au (show i<L.length by rw[←h.len];exact hl))
 exact hb.mem
theorem RC.mem (h:RC X w pc pm gN e mn lw hi O M v A c): ∀y∈rcs pc pm gN A M,y∈X:=fun y hy=>by
 rcases aF.1 hy with q|q
 ·exact h.b.mem y q
 ·rcases aC.1 q with rfl|q
  ·exact h.z.mem.1
  ·rcases aC.1 q with rfl|q
   ·exact h.z.mem.2
   ·exact h.z.memM q
theorem RC.lt (h:RC X w pc pm gN e mn lw hi O M v A c): ∀y∈rcs pc pm gN A M,y<w.heap.size:=fun y hy=>by
 rcases aF.1 hy with q|q
 ·exact h.b.lt y q
 ·rcases aC.1 q with rfl|q
  ·obtain⟨vP,vN,kn,ko,qo,h1,_⟩:=h.z.z;exact h1.lt
  ·rcases aC.1 q with rfl|q
   ·exact h.z.nodes.lt
   ·exact h.z.lt q
theorem RC.keep (h:RC X w pc pm gN e mn lw hi O M v A c) (k:Keep S w w') (hs: ∀s∈S,(s∈X∧s∉rcs pc pm gN A M)∨w.heap.size≤s):RC X w' pc pm gN e mn lw hi O M v A c:=
 ⟨h.z.keep k (fun s q=>(hs s q).imp (fun r=>⟨r.1,fun t=>r.2 (by subst t;exact aB _ (aD ..)),fun t=>r.2 (by subst t;exact aB _ (aj _ (aD ..))),fun t=>r.2 (aB _ (aj _ (aj _ t)))⟩) id),
  h.b.keep k (fun s q=>⟨fun t=>by
   rcases hs s q with r|r
   ·exact r.2 (av _ t)
   ·have:=h.b.lt s t;omega,(hs s q).imp (fun r=>r.1) id⟩),h.ne⟩
theorem RC.below (h:RC X w pc pm gN e mn lw hi O M v A c) (k:Below w.heap.size w w'):RC X w' pc pm gN e mn lw hi O M v A c:=h.keep (Keep.of (S:=[]) k) (fun _ q=>by cases q)
theorem RC.more (h:RC X w pc pm gN e mn lw hi O M v A c) (hX: ∀x∈X,x∈Y) (hY: ∀y∈Y,y∈X∨w.heap.size≤y):RC Y w pc pm gN e mn lw hi O M v A c:=⟨h.z.more hX hY,h.b.more hX hY,h.ne⟩
end
theorem zV (p:Nat×Nat) (s:Sl) (w:World) (h:RSl w p s) (hl:s.T.length≤64):
 Calls Tryz.prog 118 #[.pointer (some ⟨p.1,0,none⟩)] w fun e w'=>e= .returned (.int .i64 (gF s))∧w'=w:=by
 obtain⟨d0,d1,d2,d3,dl,dl2⟩:=h.cells
 have HB:=ah h.2
 have ALL:Hid (iI (s.T.take s.T.length)=gF s):=by show _=_;rw[bg];rfl
 obtain⟨T,hT⟩: ∃T,T=s.T:=⟨_,rfl⟩
 rw[←hT] at HB hl d3 ALL
 have ML:Hid (∀i,iI (T.take i)≤64):=fun i=>cZ (iZ _) (by rw[aU];omega)
 have MS:Hid (∀i b,T[i]?=some b→iI (T.take (i+1))=iI (T.take i)+(if b then 1 else 0)):=fun i b hb=>by
  rw[bF,hb]
  unfold iI
  rw[Option.toList_some,List.countP_append,List.countP_singleton]
  cases b<;>rfl
 clear h hT
 go_enter Tryz.func118,Tryz.ntmps118
 go_wp2_with fail
 go_loopw [3,4] (fun nv iv wr=>∃i:Nat,i≤T.length∧nv= .int .i64 (iI (T.take i))∧iv= .int .i64 i∧wr=w) (fun _ iv _=>T.length-(intOf iv).toNat)
 case atStart=>exact⟨0,aQ _,rfl,by go_num,rfl⟩
 case round=>
  obtain⟨i,hi,rfl,rfl,rfl⟩:=hrel
  have ml:=ML.out i
  by_cases hlt:i<T.length
  ·obtain⟨b,hb⟩: ∃b,T[i]?=some b:=⟨T[i],au hlt⟩
   have ck:=HB.out.c i _ (iC hb)
   have HS:=ah (MS.out i b hb)
   have hli:(i:Int)<(T.length:Int):=om
   cases b with
   |false=>
    simp only[fK,if_false,Nat.add_zero] at HS
    clear hb
    generalize hmt:iI (T.take i)=a at*
    clear hmt
    go_wp2
    go_round
    case rel=>exact⟨i+1,om,by rw[HS.out],by go_num,trivial⟩
    case measure=>simp[intOf];omega
   |true=>
    simp only[if_true] at HS
    clear hb
    generalize hmt:iI (T.take i)=a at*
    clear hmt
    go_wp2
    go_round
    case rel=>exact⟨i+1,om,by rw[HS.out];go_num,by go_num,trivial⟩
    case measure=>simp[intOf];omega
  ·obtain rfl:i=T.length:=by omega
   rw[ALL.out]
   go_wp2
   go_ret
   exact⟨rfl,rfl⟩
end
section
theorem zW {n:Int} {F T:List (Int×Int)} (h:Inv n F T) (hs:iD F=0):F=[]:=by
 cases F with
 |nil=>rfl
 |cons p r=>
  have h1:=jd r
  have h2:iD (p::r)=sz p.2+iD r:=rfl
  have h3:0<sz p.2:=iO _
  omega
theorem DU {n:Int} {F T:List (Int×Int)} (h:Inv n F T) (hb:iG 0 F=none):iD F=0:=by
 cases F with
 |nil=>rfl
 |cons p r=>
  have:=tH hb p sI
  have:=(h.BG (p:=p) sI).2.2.1
  omega
theorem take_one {mn:Int} {O:List (List Int)} {x:Nd} (hO:vM O 1) (hI:Inv x.n x.F x.T):
 (iD x.F=0→gY mn O [x] 0 0 true=([x],5,(0,0,0)))∧
 (0<iD x.F→∃b,iG 0 x.F=some b∧jK x.T b.1=none∧gY mn O [x] 0 0 true=([kS 0 b x],0,(0,b.1,0))):=by
 obtain⟨D,hD,hl,hm,hc⟩:=nR (mn:=mn) (u:=true) (k:=0) (L:=[x]) (v:=0) (by simpa using hO) sI
 have h0:(0:Int)∈D:=(hm 0).2 sI
 rcases hc with⟨hp,e⟩|⟨j,y,b,hp,j0,j1,hx,hk,hb,e⟩
 ·have hn:sU mn 0 true [x] 0=false:=by
   have:=List.find?_eq_none.1 hp 0 h0
   simpa using this
  have hb:iG 0 x.F=none:=by
   simp only[sU,okN,mayN,Int.toNat_zero,List.getElem?_cons_zero,Bool.true_or,Bool.true_and] at hn
   cases hq:iG 0 x.F with
   |none=>rfl
   |some b=>rw[hq] at hn;cases hn
  have hs:=DU hI hb
  have hF:=zW hI hs
  refine⟨fun _=> ?_,fun q=>om⟩
  rw[e]
  have:uW 0 [x]=5:=by unfold uW oh;simp[hF]
  rw[this]
 ·obtain rfl:j=0:=by simp at j1;omega
  simp at hx
  subst hx
  refine⟨fun q=> ?_,fun _=>⟨b,hb,u7 hI (iR hb).1,by rw[e];rfl⟩⟩
  have:=zW hI q
  have h2:=(iR hb).1
  rw[this] at h2;cases h2
theorem sum_ins (f:Sl→Nat) (C:List Sl) (s:Sl):((mV C s).map f).sum=(C.map f).sum+f s:=by
 have:((C.take (mh s.nd s.pg C)).map f).sum+((C.drop (mh s.nd s.pg C)).map f).sum=(C.map f).sum:=by
  rw[←List.sum_append,←List.map_append,bW]
 unfold mV
 simp only[List.map_append,cO,List.sum_append,List.sum_cons]
 omega
theorem DV (f:Sl→Nat): ∀(C:List Sl) (i:Nat) (s t:Sl),C[i]?=some s→((C.set i t).map f).sum+f s=(C.map f).sum+f t
 |[],i,s,t,h=>by simp at h
 |c::C,0,s,t,h=>by simp at h;subst h;simp;omega
 |c::C,i+1,s,t,h=>by
  have:=DV f C i s t (by simpa using h)
  simp only[List.set_cons_succ,cO,List.sum_cons];omega
theorem vH (f:Sl→Nat) (r:Nat): ∀(C:List Sl),(∀s∈C,f s=r)→(C.map f).sum=C.length*r
 |[],h=>sI
 |c::C,h=>by
  have:=vH f r C fun s q=>h s (aj _ q)
  have h1:=h c sI
  simp[this,h1,Nat.succ_mul];omega
theorem yC (f:Sl→Nat) (r:Nat): ∀(C:List Sl),(∀s∈C,f s≤r)→(C.map f).sum≤C.length*r∧((C.map f).sum=C.length*r→∀s∈C,f s=r)
 |[],h=>sI
 |c::C,h=>by
  obtain⟨h1,h2⟩:=yC f r C fun s q=>h s (aj _ q)
  have h3:=h c sI
  simp only[cO,List.sum_cons,dG,Nat.succ_mul]
  refine⟨om,fun q s hs=> ?_⟩
  rcases aC.1 hs with rfl|hs
  ·omega
  ·exact h2 om s hs
structure lV (pages:Nat) (e i:Nat) (c:Ca):Prop where
 inv:jD e c
 one: ∃x,c.L=[x]∧iD x.F=pages-(c.C.length:Int)
 tk:jN c.C=i
section
variable {mn:Int} {O:List (List Int)} {pages e i:Nat} {c:Ca}
theorem lV.nd (h:lV pages e i c) {s:Sl} (hs:s∈c.C):s.nd=0:=by
 obtain⟨x,hx,_⟩:=h.one
 have:=(h.inv.tk s hs).rng h.inv.zi
 rw[hx] at this;simp at this;omega
theorem lV.le (h:lV pages e i c):c.C.length≤pages:=by
 obtain⟨x,hx,hs⟩:=h.one
 have:=jd x.F
 omega
theorem lV.room (h:lV pages e i c):oz c.C=c.C.length*gP e:=vH _ _ _ fun s hs=>h.inv.len s hs
theorem lV.max (h:lV pages e i c):i≤c.C.length*gP e:=by
 rw[←h.tk]
 exact(yC gF (gP e) c.C fun s hs=>by rw[←h.inv.len s hs];exact iZ _).1
theorem lV.none_ (h:lV pages e i c) (hb:iW 0 c.C c.C.length=none):i=c.C.length*gP e:=by
 rw[←h.tk]
 refine vH _ _ _ fun s hs=> ?_
 obtain⟨j,hj,hg⟩:=List.mem_iff_getElem.1 hs
 have h1:=pG hb j s hj (ak.2 ⟨hj,hg⟩) (h.nd hs)
 have h2:gF s≤s.T.length:=iZ _
 rw[←h.inv.len s hs];omega
theorem lV.take (h:lV pages e i c) (hO:vM O 1) (hi:i<pages*gP e):
 (takeC mn O e c 0 true).2.1=0∧(takeC mn O e c 0 true).2.2.1=0∧lV pages e (i+1) (takeC mn O e c 0 true).1:=by
 have hI:=oC (mn:=mn) (O:=O) (v:=0) (u:=true) (by obtain⟨x,hx,_⟩:=h.one;rw[hx];exact hO) h.inv
 obtain⟨x,hx,hs⟩:=h.one
 have hv: ¬((0:Int)<0∨(c.L.length:Int)≤0):=by rw[hx];simp
 revert hI
 unfold takeC
 rw[if_neg hv]
 cases hb:iW 0 c.C c.C.length with
 |some k=>
  obtain⟨_,s,hk,hn,hm⟩:=iU hb
  simp only[hk]
  intro hI
  refine⟨trivial,by rw[oQ];exact hn,hI,⟨x,hx,by simpa using hs⟩,?_⟩
  obtain⟨f1,f2,_⟩:=iL hm
  have h1:=mU f2 true
  have h2:=DV gF c.C k s (jc s (gU s.T) true) hk
  have h3:=h.tk
  have h4:gF (jc s (gU s.T) true)=iI (s.T.set (gU s.T) true):=rfl
  have h5:gF s=iI s.T:=rfl
  show((c.C.set k (jc s (gU s.T) true)).map gF).sum=i+1
  have h6:(c.C.map gF).sum=i:=h3
  simp only[if_true,fK,if_false] at h1
  omega
 |none=>
  have hfull:=h.none_ hb
  have hlt:c.C.length<pages:=by
   rcases dQ c.C.length pages with q|q
   ·exact q
   ·have:=Nat.mul_le_mul_right (gP e) q
    omega
  obtain⟨b,hbb,hf,et⟩:=(take_one (mn:=mn) hO (h.inv.zi x (by rw[hx];simp))).2 om
  simp only[hx,et,if_true]
  intro hI
  refine⟨trivial,trivial,hI,⟨kS 0 b x,rfl,?_⟩,?_⟩
  ·rw[y9]
   show iD (kQ 0 b x.F)=_
   rw[(h.inv.zi x (by rw[hx];simp)).yZ om hbb,hs]
   have:sz 0=1:=rfl
   push_cast;omega
  ·have h1:=sum_ins gF c.C (jc ⟨0,b.1,gM e⟩ 0 true)
   have h3:(c.C.map gF).sum=i:=h.tk
   have h4:=mW h.inv.e1 h.inv.e2
   have h5:=mU (T:=gM e) (k:=0) (b:=false) (by unfold gM;simp[List.getElem?_replicate];omega) true
   have h6:=ny e
   have h7:gF (jc ⟨0,b.1,gM e⟩ 0 true)=iI ((gM e).set 0 true):=rfl
   show((mV c.C (jc ⟨0,b.1,gM e⟩ 0 true)).map gF).sum=i+1
   simp only[if_true,fK,if_false] at h5
   omega
theorem lV.stop (h:lV pages e (pages*gP e) c) (hO:vM O 1):
 takeC mn O e c 0 true=(c,5,(0,0))∧jN c.C=pages*gP e∧oz c.C=pages*gP e∧∃x,c.L=[x]∧iD x.F=0:=by
 have hp:=mW h.inv.e1 h.inv.e2
 have hm:=h.max
 have hl:=h.le
 have hC:c.C.length=pages:=by
  have:=Nat.le_of_mul_le_mul_right hm hp
  omega
 obtain⟨x,hx,hs⟩:=h.one
 have hs0:iD x.F=0:=om
 refine⟨?_,h.tk,by rw[h.room,hC],x,hx,hs0⟩
 have hall:=(yC gF (gP e) c.C fun s hs=>by rw[←h.inv.len s hs];exact iZ _).2 (by have:=h.tk;unfold jN at this;rw[this,hC])
 have hv: ¬((0:Int)<0∨(c.L.length:Int)≤0):=by rw[hx];simp
 unfold takeC
 rw[if_neg hv]
 have hb:iW 0 c.C c.C.length=none:=by
  cases hb:iW 0 c.C c.C.length with
  |none=>rfl
  |some k=>
   obtain⟨_,s,hk,hn,hm⟩:=iU hb
   have:=hall s (aA hk)
   rw[h.inv.len s (aA hk)] at hm
   omega
 rw[hb]
 simp only[hx,(take_one (mn:=mn) hO (h.inv.zi x (by rw[hx];simp))).1 hs0]
 have:c=⟨[x],c.C⟩:=by rw[←hx]
 simp
 exact this.symm
end
end
section
open Go.RowKit Go.Maps
attribute [local go_sem ↓] bA bB
theorem eqO (a k b m:Int) (w:World):(binOp .eql 49 (.agg #[.int .i64 a,.int .i64 k]) (.agg #[.int .i64 b,.int .i64 m])).run Tryz.prog w= .ok (.bool (a==b&&k==m)) w:=by
 have u3:=aS
 have a3:=eG
 have z3:=dZ
 have hS:Tryz.prog.underlying 49=some (.struct (Tryz.prog.fieldsOf 49)):=kR
 have hp:Tryz.prog.stoodInHeld 49=false:=kR
 rw[run_eql_struct,show(10000:Nat)=9999+1 from rfl,run_equalIn_agg w 9999 49 _ _ hS hp]
 simp only[Program.fieldsOf,Tryz.underlying49]
 go_simp
 by_cases h1:a=b<;>by_cases h2:k=m<;>simp[h1,h2]
theorem zX:Tryz.prog.eqGuardType Tryz.prog.depth 49=false:=kR
theorem DW {n:Int} (n0:0≤n):iD (lX 0 n)=n:=by
 have:=vV (kX n.toNat 0 n (aH _) n0)
 omega
theorem lV.start {pages e:Nat} {x:Nd} (hI:Inv x.n x.F x.T) (e1:1≤e) (e2:e≤64) (hF:x.F=lX 0 pages):lV pages e 0 ⟨[x],[]⟩:=
 ⟨⟨e1,e2,fun y hy=>by simp at hy;subst hy;exact hI,sI,List.Pairwise.nil,fun s hs=>(by cases hs),fun s hs=>(by cases hs)⟩,⟨x,rfl,by rw[hF,DW om];simp⟩,rfl⟩
theorem yD {x:Nd} (hO:vM [[0]] 1) (hI:Inv x.n x.F x.T) (hF:x.F=lX 0 1):
 takeC 0 [[0]] 30 ⟨[x],[]⟩ 0 true=(⟨[kS 0 (0,0) x],[⟨0,0,[true,false]⟩]⟩,0,(0,0))∧
 takeC 0 [[0]] 30 ⟨[kS 0 (0,0) x],[⟨0,0,[true,false]⟩]⟩ 0 true=(⟨[kS 0 (0,0) x],[⟨0,0,[true,true]⟩]⟩,0,(0,30)):=by
 have hc:lX 0 1=[(0,0)]:=by decide
 obtain⟨b,hb,_,ht⟩:=(take_one (mn:=0) hO hI).2 (by rw[hF,DW om];omega)
 have hb0:iG 0 x.F=some (0,0):=by rw[hF,hc];decide
 rw[hb0] at hb
 obtain rfl:=aI hb
 constructor
 ·unfold takeC
  rw[if_neg sI]
  simp only[ht]
  rfl
 ·unfold takeC
  rw[if_neg sI]
  rfl
theorem vI: ∀{C:List Sl},(∀s∈C,s.T.length≤64)→jN C≤oz C∧oz C≤64*C.length
 |[],_=>⟨aH _,aH _⟩
 |s::C,h=>by
  obtain⟨h1,h2⟩:=vI (C:=C) fun x hx=>h x (aj _ hx)
  have h3:=h s sI
  have h4:gF s≤s.T.length:=iZ _
  unfold jN oz at*
  simp only[cO,List.sum_cons,dG]
  omega
theorem yE {C:List Sl} {i:Nat} {s:Sl} (h:C[i]?=some s):jN (C.take (i+1))=jN (C.take i)+gF s∧oz (C.take (i+1))=oz (C.take i)+s.T.length:=by
 rw[bF,h]
 unfold jN oz
 simp
section
variable {B:Nat} {ev:Nat→Addr} {pc pz e:Nat} {mn lw hi:Int} {O:List (List Int)} {X:List Nat} {vs:Value} {A:SA} {c:Ca} {w:World}
theorem oJ (v:Int) (u:Bool) (hE:nI B ev w) (h:CS B w pc pz mn lw hi O e X vs A c) (hI:jD e c):
 Calls Tryz.prog 23 #[.pointer (some ⟨pc,0,none⟩),.int .i64 v,.bool u] w (pR B ev pc pz mn lw hi O e X vs A c w (takeC mn O e c v u)):=by
 by_cases hv:v<0∨(c.L.length:Int)≤v
 ·exact DJ v u hE h hv
 ·obtain⟨n,rfl⟩: ∃n:Nat,v=n:=⟨v.toNat,om⟩
  exact AX n u hE h hI hE.size om
theorem CS.zY (h:CS B w pc pz mn lw hi O e X vs A c) {w':World} (hB:B≤w.heap.size) (k:Keep (cay pc vs A++ys c.L) w w'):Below B w w':=k.below hB fun s hs=>by
 rcases aF.1 hs with q|q
 ·exact(h.ch.lim s q).1
 ·exact(h.z.b.lim s q).1
theorem CS.new {L:List Nd} (h:iH B w pz mn lw hi O L) (hL:0<L.length) (hB:B≤w.heap.size) (e:Nat):
 CS B (w.alloc (.cells #[.pointer (some ⟨pz,0,none⟩),.int .i64 e,.slice none 0 0] 200)) w.heap.size pz mn lw hi O e (w.heap.size::ys L) (.slice none 0 0) [] ⟨L,[]⟩:=by
 have b:Below w.heap.size w (w.alloc (.cells #[.pointer (some ⟨pz,0,none⟩),.int .i64 e,.slice none 0 0] 200)):=gI
 have hc:cay w.heap.size (.slice none 0 0) []=[w.heap.size]:=rfl
 refine⟨(h.toX.more (fun x hx=>aj _ hx) (fun y hy=> ?_)).below b,⟨gH.mk_ w [.pointer (some ⟨pz,0,none⟩),.int .i64 e,.slice none 0 0] 200 rfl,⟨rfl,.inl ⟨rfl,rfl⟩⟩,rfl,fun i p s hp=>by simp at hp,fun y hy=> ?_,?_,fun y hy=> ?_⟩,fun y hy q=> ?_,hL⟩
 ·rcases aC.1 hy with rfl|q
  ·exact .inr (aH _)
  ·exact .inl q
 ·rw[hc] at hy;simp at hy;subst hy;exact aD ..
 ·rw[hc];simp
 ·rw[hc] at hy;simp at hy;subst hy;simp;exact hB
 ·rw[hc] at hy;simp at hy;subst hy
  have:=(h.b.lim _ q).2;omega
theorem count_ok (h:CS B w pc pz mn lw hi O e X vs A c) (hI:jD e c):
 Calls Tryz.prog 135 #[.pointer (some ⟨pc,0,none⟩)] w fun r w'=>r= .returned (.tuple #[.int .i64 (jN c.C),.int .i64 (oz c.C)])∧Below w.heap.size w w':=by
 obtain⟨qv,kv,evs,kv1,kv2,hrow⟩:=h.ch.form
 subst evs
 have DK:Hid (∀s∈c.C,s.T.length≤64):=fun s hs=>by rw[hI.len s hs];unfold gP;exact bP _ _
 have few:=hI.few
 have c2:=h.ch.c.c 2 _ rfl;have cl:=h.ch.c.lt
 have qI:=ah hrow;have HC:=ah h.ch
 have BD:Hid (∀i,jN (c.C.take i)≤65536∧oz (c.C.take i)≤65536):=fun i=>by
  obtain⟨h1,h2⟩:=vI (C:=c.C.take i) fun s hs=>DK.out s (dh hs)
  have h3:(c.C.take i).length≤1024:=by rw[aU];omega
  omega
 have ALL:Hid (c.C.take c.C.length=c.C):=by show _=_;simp
 obtain⟨n,hn⟩: ∃n,n=c.C.length:=⟨_,rfl⟩
 have EN:=ah hn
 rw[←hn] at c2 few kv1 ALL
 unfold maxLen at kv2
 clear h hI hrow hn
 go_enter Tryz.func135,Tryz.ntmps135
 go_wp2_with fail
 go_loopw [2,3,11] (fun tv rv iv wr=>∃i:Nat,i≤n∧tv= .int .i64 (jN (c.C.take i))∧rv= .int .i64 (oz (c.C.take i))∧iv= .int .i64 i∧Below w.heap.size w wr) (fun _ _ iv _=>n-(intOf iv).toNat)
 case atStart=>exact⟨0,om,rfl,rfl,by go_num,gI⟩
 case round=>
  obtain⟨i,hile,rfl,rfl,rfl,hbel⟩:=hrel
  have BW:Hid (∀W,Below wr.heap.size wr W→Below w.heap.size w W):=fun W b=>hbel.trans (b.mono hbel.size)
  by_cases hin:i<n
  ·obtain⟨s,hs⟩: ∃s,c.C[i]?=some s:=⟨c.C[i]'(by rw[←EN.out];exact hin),au _⟩
   obtain⟨p,hp,hsl,_⟩:=(HC.out.below hbel).at hs
   obtain⟨g,rfl,hg,hc0⟩:=qI.out i p hp
   have ck:wr.cell? ⟨g,i,none⟩=some (.pointer (some ⟨p.1,0,none⟩)):=(hbel.cell (p:=⟨g,i,none⟩) hg).trans hc0
   have gl:g<wr.heap.size:=aG hg hbel.size
   have hik:i<kv:=om
   obtain⟨d0,d1,_,d3,d4,dl,_⟩:=hsl.cells
   obtain⟨t1,t2⟩:=BD.out i
   have s1:=DK.out s (aA hs)
   have s2:gF s≤s.T.length:=iZ _
   obtain⟨n1,n2⟩:=yE hs
   have N1:=ah n1;have N2:=ah n2
   clear hc0 hsl hs hp n1 n2
   generalize gF s=a at*
   generalize s.T.length=l at*
   generalize jN (c.C.take i)=ta at*
   generalize oz (c.C.take i)=ro at*
   go_wp2_with fail
   go_quiet (fail)
   go_wp2
   go_round
   case rel=>exact⟨i+1,om,by rw[N1.out];go_num,by rw[N2.out];go_num,by go_num,BW.out _ gI⟩
   case measure=>simp[intOf];omega
  ·obtain rfl:i=n:=by omega
   rw[ALL.out]
   go_wp2
   go_ret2
   exact⟨rfl,hbel⟩
end
theorem Bb {B:Nat} {ev:Nat→Addr} (w:World) (hE:oW B ev w):
 Calls Tryz.prog 15 #[] w fun e w'=>e= .returned (.bool true)∧Below w.heap.size w w':=by
 have hB:=hE.size
 have eb:=eqO;have gb:=zX
 have HE:=ah hE
 clear hE
 go_enter Tryz.func15,Tryz.ntmps15
 go_wp2_with fail
 refine(one_ok (X:=[]) 1 w (fun x hx=>by cases hx)).mono ?_
 rintro e w1 ⟨vP,vN,rfl,hcfg,hb1⟩
 have z1:=hb1.size
 have HC:=ah hcfg
 clear hcfg
 go_wp2_with fail
 refine(oneZone vP vN 1 w1 (HE.out.z.go hb1).c HC.out om om).mono ?_
 rintro e w2 ⟨pz,x,rfl,hz,hpz,hn,hF,hT,hb2⟩
 have z2:=hb2.size
 have hI:=(hz.b.bud x sI).2
 obtain⟨t1,t2⟩:=yD (by simpa using hz.ord) hI hF
 have F0:=lV.start (pages:=1) (e:=30) hI om om hF
 have T1:=ah t1;have T2:=ah t2;have HF0:=ah F0;have HZ:=ah hz
 have B12:=ah (hb1.trans (hb2.mono z1))
 clear hz hI hF hT hn t1 t2 F0 hb1 hb2
 go_wp2_with fail
 refine(show Calls Tryz.prog 20 #[.pointer (some ⟨pz,0,none⟩),.int .i64 30] w2 _ from Dz pz 30 w2 om om).mono ?_
 rintro e w3 ⟨rfl,hw3⟩
 have C0:=CS.new HZ.out sI z2 30
 have b3:Below w2.heap.size w2 w3:=by rw[hw3];exact gI
 rw[←hw3] at C0
 have z3:=b3.size
 have B13:=ah (B12.out.trans (b3.mono om))
 have E3:=HE.out.go B13.out
 have EZ3:=E3.z.up (B':=w1.heap.size) om om
 have S1:=oJ 0 true EZ3 C0 HF0.out.inv
 rw[T1.out] at S1
 have HS1:=ah S1;have HC0:=ah C0;have HEZ:=ah EZ3
 clear S1 C0 hw3 E3 EZ3 b3
 go_wp2_with fail
 refine HS1.out.mono ?_
 rintro e w4 ⟨he,X1,v1,A1,C1,K1,_,_,_⟩
 simp only[obV,iP] at he
 subst he
 have b4:=HC0.out.zY om K1
 have z4:=b4.size
 have b4':Below w4.heap.size w4 (w4.alloc (.cells #[.int .i64 0,.int .i64 0] 49)):=gI
 have C1':=C1.below b4'
 have F1:=(HF0.out.take (mn:=0) (O:=[[0]]) (by simpa using HZ.out.ord) (by decide)).2.2
 rw[T1.out] at F1
 have B4:=ah (b4.trans (b4'.mono om))
 have LA:=ah (show gH (w4.alloc (.cells #[.int .i64 0,.int .i64 0] 49)) w4.heap.size [.int .i64 0,.int .i64 0] from gH.mk_ w4 [.int .i64 0,.int .i64 0] 49 rfl)
 have N1:Hid (w4.heap.size∉cay w2.heap.size v1 A1++ys [kS 0 (0,0) x]):=fun q=>by
  rcases aF.1 q with q|q
  ·have:=(C1.ch.lim _ q).2;omega
  ·have:=(C1.z.b.lim _ q).2;omega
 have EZ4:=HEZ.out.below B4.out
 have S2:=oJ 0 true EZ4 C1' F1.inv
 rw[T2.out] at S2
 have HS2:=ah S2;have HC1:=ah C1';have HF1:=ah F1;have HE4:=ah EZ4
 clear S2 C1 C1' K1 b4 b4' HS1 F1 EZ4
 go_wp2_with fail
 refine HS2.out.mono ?_
 rintro e w5 ⟨he,X2,v2,A2,C2,K2,_,_,Y2⟩
 simp only[obV,iP] at he
 subst he
 have b5:=HC1.out.zY (by simp;omega) K2
 have z5:=K2.size
 simp at z5
 have b5':Below w5.heap.size w5 (w5.alloc (.cells #[.int .i64 0,.int .i64 30] 49)):=gI
 have C2':=C2.below b5'
 have F2:=(HF1.out.take (mn:=0) (O:=[[0]]) (by simpa using HZ.out.ord) (by decide)).2.2
 rw[T2.out] at F2
 have B5:=ah (b5.trans (b5'.mono om))
 have LA5:=ah ((LA.out.keep K2 N1.out).go b5')
 have LB:=ah (show gH (w5.alloc (.cells #[.int .i64 0,.int .i64 30] 49)) w5.heap.size [.int .i64 0,.int .i64 30] from gH.mk_ w5 [.int .i64 0,.int .i64 30] 49 rfl)
 have N2:Hid (w5.heap.size∉cay w2.heap.size v2 A2++ys [kS 0 (0,0) x]):=fun q=>by
  rcases aF.1 q with q|q
  ·have:=(C2.ch.lim _ q).2;omega
  ·have:=(C2.z.b.lim _ q).2;omega
 have N2':Hid (w4.heap.size∉cay w2.heap.size v2 A2++ys [kS 0 (0,0) x]):=fun q=>by
  rcases aF.1 q with q|q
  ·rcases Y2 _ q with t|t
   ·exact N1.out (av _ t)
   ·simp at t;omega
  ·exact N1.out (aB _ q)
 have EZ5:=HE4.out.below B5.out
 have S3:=oJ 0 true EZ5 C2' F2.inv
 rw[(lV.stop (pages:=1) (mn:=0) (O:=[[0]]) F2 (by simpa using HZ.out.ord)).1] at S3
 have HS3:=ah S3;have HC2:=ah C2';have HE5:=ah EZ5
 clear S3 C2 C2' K2 b5 b5' HS2 F2 EZ5 Y2
 go_wp2_with fail
 refine HS3.out.mono ?_
 rintro e w6 ⟨he,X3,v3,A3,C3,K3,_,_,_⟩
 simp only[obV] at he
 have e5:iP ev 5= .iface 434 (.pointer (some (ev 5))):=rfl
 simp only[e5] at he
 subst he
 have b6:=HC2.out.zY (by simp;omega) K3
 have z6:=K3.size
 simp at z6
 have b6':Below w6.heap.size w6 (w6.alloc (.cells #[.int .i64 0,.int .i64 0] 49)):=gI
 have LA6:=ah ((LA5.out.keep K3 N2'.out).go b6')
 have LB6:=ah ((LB.out.keep K3 N2.out).go b6')
 have B6:=ah (b6.trans (b6'.mono om))
 have BALL:=ah (B13.out.trans (((B4.out.trans B5.out).trans B6.out).mono om))
 have CO:=kP 5 5 _ (HE.out.go BALL.out) (by decide) (by decide)
 rw[e5] at CO
 have HCO:=ah CO
 clear C3 K3 b6 b6' HS3 CO e5
 go_wp2_with fail
 refine HCO.out.mono ?_
 rintro e w7 ⟨rfl,hb7⟩
 have M:=LA6.out.go hb7;have M':=LB6.out.go hb7
 have m0:=M.c 0 _ rfl;have m1:=M.c 1 _ rfl;have ml:=M.lt;have n0:=M'.c 0 _ rfl;have n1:=M'.c 1 _ rfl;have nl:=M'.lt
 clear M M' HCO
 go_wp2
 go_ret
 exact⟨rfl,BALL.out.trans (hb7.mono (by simp;omega))⟩
end
section
def behindO (e:Nat) (a b:Ob):Prop:=a.1<b.1∨a.1=b.1∧a.2+e≤b.2
def OnlyP (c:Ca):Prop:=∀(i:Nat) (x:Nd),c.L[i]?=some x→∀p∈x.T,∃s∈c.C,s.nd=i∧s.pg=p.1
def cntN (v:Int) (C:List Sl):Nat:=C.countP fun s=>decide (s.nd=v)
end
end Go.Proofs.YtdcbhlcbiokbeaaGreatDoor
