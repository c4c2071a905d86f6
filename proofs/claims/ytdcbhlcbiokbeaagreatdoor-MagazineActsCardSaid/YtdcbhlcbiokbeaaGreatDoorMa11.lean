/- Lemmas and contracts for the claim's last text: STaken, SApart, DPl, DB, DOps. -/
import Derived.Test.YtdcbhlcbiokbeaaGreatDoorMa01
import Derived.Test.YtdcbhlcbiokbeaaGreatDoorMa06
import Derived.Test.YtdcbhlcbiokbeaaGreatDoorMa09
import Derived.Test.YtdcbhlcbiokbeaaGreatDoorMa10
set_option linter.unusedSimpArgs false
set_option linter.unusedVariables false
set_option maxHeartbeats 16000000
set_option maxRecDepth 100000
namespace Go.Proofs.YtdcbhlcbiokbeaaGreatDoor
section
open Go.RowKit Go.Maps
attribute [local go_sem ↓] aW aX
structure ElS (T E:TypeId) (z:Value) (s b:Nat):Prop where
 und:Tryz.prog.underlying T=some (.slice E)
 info:(Tryz.prog.info? E).map (fun i=>(i.zero,i.size,i.bytes))=some (some z,s,b)
 one:z.cells.size=s
 pos:0<s
 few:b≤64
theorem sH:ElS 79 49 (.agg #[.int .i64 0,.int .i64 0]) 2 16:=⟨gP,kR,rfl,om,om⟩
theorem elPl:ElS 235 61 (.agg #[.int .i64 0,.int .i64 0,.int .i64 0]) 3 24:=⟨Tryz.underlying235,kR,rfl,om,om⟩
theorem C8 {T E:TypeId} {z:Value} {s b:Nat} (hE:ElS T E z s b) {w:World} (ty:TypeId) {base:Nat} {v:Value} {n:Nat} {xs ms:List Value} (hown:w.ownsRow base E s v n xs) {a:Addr} {c:Nat} (hm:ms.length=s) (hc: ∀(j:Nat) (u:Value),ms[j]?=some u→w.cell? (a.add j)=some u) (h1: ∀u∈ms,u.oneCell'=true)
 (hl:n≤70000) (hb:base≤w.heap.size):
 ∃q k w',(Builtin.append_ #[T,T] ty #[v,.slice (some a) 1 c]).run Tryz.prog w= .ok (.slice q (n+1) k) w'∧w'.ownsRow base E s (.slice q (n+1) k) (n+1) (xs++ms)∧w.grownBy w' v.ownBlock:=by
 obtain⟨i0,hi,hz0,hz1,hz2⟩:=info_parts hE.info
 have hfew:=hE.few
 obtain⟨v',w',hrun,h2,h3,_,h5⟩:=run_append_own_at (P:=Tryz.prog) w base T ty E i0 z s b hE.und hi hz0 hz1 hz2 hE.one hE.pos v n xs hown a 1 c ms
  om hc h1 (by unfold maxLen;omega) (by
   have:(n+1)*b≤70001*64:=dB om hfew
   omega) hb
 have hf: ∃q k,v'= .slice q (n+1) k:=by
  rcases h2.2 with⟨e,e2⟩|⟨g',cap',cur,e,_⟩
  ·exact⟨none,0,by rw[e,e2]⟩
  ·exact⟨_,_,e⟩
 obtain⟨q,k,rfl⟩:=hf
 exact⟨q,k,w',hrun,h2,h3⟩
theorem zx {T E:TypeId} {z:Value} {s b:Nat} (hE:ElS T E z s b) {base:Nat} {v:Value} {n:Nat} {xs ms:List Value} {w:World} {ad:Addr} {c:Nat} {ops:Array Oper} {o:Oper} {a:Act} {K:Act→World→Prop} {Q:Exit→Act→World→Prop} {F:Prop} (hgd:o.guard=none) (sl x:Operand)
 (ho:o.op= .call {callee:=.builtin .append,args:=#[sl,x],argTypes:=#[T,T]}) (hv:a.eval sl=v) (hx:a.eval x= .slice (some ad) 1 c)
 (hown:w.ownsRow base E s v n xs) (hm:ms.length=s) (hc: ∀(j:Nat) (u:Value),ms[j]?=some u→w.cell? (ad.add j)=some u) (h1: ∀u∈ms,u.oneCell'=true) (hl:n≤70000) (hb:base≤w.heap.size)
 (h: ∀q k w',w'.ownsRow base E s (.slice q (n+1) k) (n+1) (xs++ms)→w.grownBy w' v.ownBlock→K (a.put o.dst (.slice q (n+1) k)) w'):
 if Region.wanted o (yielded ops a.tmps)=true then Oper.wp Tryz.prog o a w K Q else F:=by
 have hw:Region.wanted o (yielded ops a.tmps)=true:=by simp[Region.wanted,hgd]
 rw[if_pos hw]
 obtain⟨q,k,w',hrun,h2,h3⟩:=C8 hE (w:=w) o.type hown hm hc h1 hl hb (c:=c)
 unfold Oper.wp execOp
 simp only[ho,resolve,invoke,builtin,dP,dX,dx,dG,bX,dY,hv,hx,hrun]
 exact h q k w' h2 h3
theorem vk {T E:TypeId} {z:Value} {s b:Nat} (hE:ElS T E z s b) {base:Nat} {v:Value} {n:Nat} {xs ms:List Value} {w:World} {ad:Addr} {c:Nat} {ops:Array Oper} {rest:List Oper} {o:Oper} {a:Act} {Q:Exit→Act→World→Prop} (hgd:o.guard=none) (sl x:Operand)
 (ho:o.op= .call {callee:=.builtin .append,args:=#[sl,x],argTypes:=#[T,T]}) (hv:a.eval sl=v) (hx:a.eval x= .slice (some ad) 1 c)
 (hown:w.ownsRow base E s v n xs) (hm:ms.length=s) (hc: ∀(j:Nat) (u:Value),ms[j]?=some u→w.cell? (ad.add j)=some u) (h1: ∀u∈ms,u.oneCell'=true) (hl:n≤70000) (hb:base≤w.heap.size)
 (h: ∀q k w',w'.ownsRow base E s (.slice q (n+1) k) (n+1) (xs++ms)→w.grownBy w' v.ownBlock→wpList Tryz.prog ops Q rest (a.put o.dst (.slice q (n+1) k)) w'):wpList Tryz.prog ops Q (o::rest) a w:=by
 refine wpList_plain hgd fun K hK=> ?_
 obtain⟨q,k,w',hrun,h2,h3⟩:=C8 hE (w:=w) o.type hown hm hc h1 hl hb (c:=c)
 unfold Oper.wp execOp
 simp only[ho,resolve,invoke,builtin,dP,dX,dx,dG,bX,dY,hv,hx,hrun]
 exact hK _ _ (h q k w' h2 h3)
theorem zy (w:World) (u0 u1 u2:Value) (t:TypeId): ∀j u,[u0,u1,u2][j]?=some u→(w.alloc (.cells #[u0,u1,u2] t)).cell? ((⟨w.heap.size,0,none⟩:Addr).add j)=some u:=by
 intro j u hu
 match j,hu with
 |0,hu=>simp at hu;subst hu;simp[Addr.add]
 |1,hu=>simp at hu;subst hu;simp[Addr.add]
 |2,hu=>simp at hu;subst hu;simp[Addr.add]
def AA (e:Nat) (s:Sl) (k:Nat):List Ob:=(List.range k).filterMap fun k=>if s.T[k]?=some true then some (mg e s k) else none
theorem xS (e:Nat) (s:Sl):AA e s s.T.length=obsS e s:=rfl
theorem C9 {e:Nat} {s:Sl} {k:Nat} (h:s.T[k]?=some true):AA e s (k+1)=AA e s k++[mg e s k]:=by
 unfold AA
 rw[List.range_succ,List.filterMap_append]
 simp[h]
theorem FT {e:Nat} {s:Sl} {k:Nat} (h:s.T[k]?=some false):AA e s (k+1)=AA e s k:=by
 unfold AA
 rw[List.range_succ,List.filterMap_append]
 simp[h]
theorem xU (e:Nat) (s:Sl) (k:Nat):(AA e s k).length≤k:=by
 unfold AA
 have:=List.length_filterMap_le (fun k=>if s.T[k]?=some true then some (mg e s k) else none) (List.range k)
 simpa using this
theorem zF {e:Nat} {C:List Sl} {i:Nat} {s:Sl} (h:C[i]?=some s):jQ e (C.take (i+1))=jQ e (C.take i)++obsS e s:=by
 rw[bH,h]
 unfold jQ
 simp
theorem xV {e:Nat}: ∀{C:List Sl},(∀s∈C,s.T.length≤64)→(jQ e C).length≤64*C.length
 |[],_=>aO _
 |s::C,h=>by
  have h1:=xV (e:=e) (C:=C) fun x hx=>h x (ak _ hx)
  have h2:=h s sI
  have h3:=xU e s s.T.length
  rw[xS] at h3
  have:jQ e (s::C)=obsS e s++jQ e C:=by simp[jQ]
  rw[this,aU,dw]
  omega
def OwnO (w w':World) (v:Value) (l:List Ob):Prop:=w'.ownsRow w.heap.size 49 2 v l.length (jc l)∧Below w.heap.size w w'
section
variable {B:Nat} {ev:Nat→Addr} {pc pz e:Nat} {mn lw hi:Int} {O:List (List Int)} {X:List Nat} {vs:Value} {A:SA} {c:Ca} {w:World}
theorem FU (h:CS B w pc pz mn lw hi O e X vs A c) (hI:l8 e c):
 Calls Tryz.prog 140 #[.pointer (some ⟨pc,0,none⟩)] w fun r w'=>∃v,r= .returned v∧OwnO w w' v (jQ e c.C):=by
 obtain⟨qv,kv,evs,kv1,kv2,hrow⟩:=h.ch.form
 subst evs
 have e1:=hI.e1;have e2:=hI.e2
 have few:=hI.few
 have HIN:=ah hI
 have rR:=ah hrow;have HC:=ah h.ch
 have HL64:Hid (∀s∈c.C,s.T.length≤64):=fun s hs=>by rw[hI.len s hs];unfold iM;exact bU _ _
 have c1:=h.ch.c.c 1 _ rfl;have c2:=h.ch.c.c 2 _ rfl;have cl:=h.ch.c.lt
 have ALL:Hid (c.C.take c.C.length=c.C):=by show _=_;simp
 obtain⟨nn,hnn⟩: ∃nn,nn=c.C.length:=⟨_,rfl⟩
 have EN:=ah hnn
 rw[←hnn] at c2 few kv1 ALL
 have OL:Hid (∀i,i≤nn→(jQ e (c.C.take i)).length≤65536):=fun i hi=>by
  have:=xV (e:=e) (C:=c.C.take i) fun s hs=>HL64.out s (d9 hs)
  rw[aQ] at this
  omega
 unfold maxLen at kv2
 clear h hI hrow hnn
 go_enter Tryz.func140,Tryz.ntmps140
 go_wp2_with fail
 go_loopw [3,13] (fun ov iv wr=>∃(i:Nat),i≤nn∧iv= .int .i64 i∧Hid (wr.ownsRow w.heap.size 49 2 ov (jQ e (c.C.take i)).length (jc (jQ e (c.C.take i))))∧Below w.heap.size w wr) (fun _ iv _=>nn-(intOf iv).toNat)
 case atStart=>exact⟨0,om,by go_num,aR _ _ _ _,aJ _ _⟩
 case round=>
  obtain⟨i,hile,rfl,HO,hbel⟩:=hrel
  by_cases hin:i<nn
  ·obtain⟨s,hs⟩: ∃s,c.C[i]?=some s:=⟨c.C[i]'(by rw[←EN.out];exact hin),au _⟩
   obtain⟨p,hp,hsl,_⟩:=(HC.out.below hbel).at hs
   obtain⟨g,rfl,hg,hc0⟩:=rR.out i p hp
   have ck:wr.cell? ⟨g,i,none⟩=some (.pointer (some ⟨p.1,0,none⟩)):=(hbel.cell (p:=⟨g,i,none⟩) hg).trans hc0
   have gl:g<wr.heap.size:=aF hg hbel.size
   have hik:i<kv:=om
   obtain⟨d0,d1,_,d3,d4,dl,dl2⟩:=hsl.cells
   have hsm:=aB hs
   obtain⟨_,_,r3,r4⟩:=HIN.out.rng hsm
   have l64:=HL64.out s hsm
   have SW:=ah ((HC.out).sl i p s hp hs)
   have OLi:=OL.out i hile
   have SN:=ah (zF (e:=e) hs)
   have HKA:=ah (xS e s)
   obtain⟨l,hll⟩: ∃l,l=s.T.length:=⟨_,rfl⟩
   have HLL:=ah hll
   rw[←hll] at l64 d3 HKA
   clear hc0 hsl hs hp hsm hll
   go_wp2_with fail
   go_loopw [3,22] (fun ov kv wi=>∃(k:Nat),k≤l∧kv= .int .i64 k∧Hid (wi.ownsRow w.heap.size 49 2 ov ((jQ e (c.C.take i)).length+(AA e s k).length) (jc (jQ e (c.C.take i)++AA e s k)))∧Below w.heap.size w wi) (fun _ kv _=>l-(intOf kv).toNat)
   case atStart=>exact⟨0,om,by go_num,(show wr.ownsRow _ _ _ _ _ _ from by have:=HO.out;simpa[AA] using this),hbel⟩
   case round=>
    obtain⟨k,hkl,rfl,HOk,hbk⟩:=hrel
    obtain⟨y0,y1,_,y3,y4,yl,yl2⟩:=(SW.out.keep (Keep.of (S:=[]) hbk) sI sI).cells
    have yb:=ah (SW.out.keep (Keep.of (S:=[]) hbk) sI sI)
    have p1:wr.cell? ⟨pc,1,none⟩=some (.int .i64 e):=(hbk.cell (p:=⟨pc,1,none⟩) cl).trans c1
    have pl:pc<wr.heap.size:=aF cl hbk.size
    by_cases hlt:k<l
    ·obtain⟨bt,hbt⟩: ∃bt,s.T[k]?=some bt:=⟨s.T[k]'(by rw[←HLL.out];exact hlt),au _⟩
     have ct:=yb.out.2.c k _ (jk hbt)
     cases bt with
     |false=>
      have KN:=ah (FT (e:=e) hbt)
      clear hbt
      go_wp2
      go_round
      case rel=>exact⟨k+1,om,by go_num,by rw[KN.out];exact HOk,hbk⟩
      case measure=>simp[intOf];omega
     |true=>
      have KN:=ah (C9 (e:=e) hbt)
      have ke0:(0:Int)≤(k:Int)*(e:Int):=dL om om
      have ke1:(k:Int)*(e:Int)≤4096:=by
       have:=dB (show k≤64 by omega) e2
       have h2:((k*e:Nat):Int)≤((64*64:Nat):Int):=om
       simpa using h2
      have OLK:=xU e s k
      have HB2:=ah hbk
      have hw1:IntKind.i64.wrap (s.pg*64)=s.pg*64:=aP _ om
      have hw2:IntKind.i64.wrap ((k:Int)*(e:Int))=(k:Int)*(e:Int):=aP _ om
      have hw3:IntKind.i64.wrap (s.pg*64+(k:Int)*(e:Int))=s.pg*64+(k:Int)*(e:Int):=aP _ om
      clear hbt
      go_wp2_with fail
      refine iP (S:=(fun w'=>w'.cell? ⟨p.1,0,none⟩=some (.int .i64 s.nd)∧w'.cell? ⟨p.1,1,none⟩=some (.int .i64 s.pg)∧w'.cell? ⟨pc,1,none⟩=some (.int .i64 e))) 23 #[false,false,false,false,false,false,false,false,false,false,false,false,false,false,false,false,false,false,false,false,false,false,false] rfl kR kR (by(try dsimp only);go_keep) (fun hHeld=> ?_)
      simp only[aV,bB]
      refine ctk (i:=0) (v:= ?_) rfl (fun _ _ _ h=>h) (Or.inl ⟨rf,?_⟩) ?_
      rotate_left
      ·(intro w hSw;(try dsimp only at hSw);go_simp<;>with_reducible rfl)
      try simp only[Act.put,pA,pZ,pS]
      refine ctk (i:=1) (v:= ?_) rfl (fun _ _ _ h=>h) (Or.inl ⟨rf,?_⟩) ?_
      rotate_left
      ·(intro w hSw;(try dsimp only at hSw);go_simp<;>with_reducible rfl)
      try simp only[Act.put,pA,pZ,pS]
      refine ctk (i:=2) (v:= ?_) rfl (fun _ _ _ h=>h) (Or.inl ⟨rf,?_⟩) ?_
      rotate_left
      ·(intro w hSw;(try dsimp only at hSw);go_simp<;>with_reducible rfl)
      try simp only[Act.put,pA,pZ,pS]
      refine ctk (i:=3) (v:= ?_) rfl (fun _ _ _ h=>h) (Or.inl ⟨rf,?_⟩) ?_
      rotate_left
      ·(intro w hSw;(try dsimp only at hSw);go_simp<;>with_reducible rfl)
      try simp only[Act.put,pA,pZ,pS]
      refine ctk (i:=4) (v:= ?_) rfl (fun _ _ _ h=>h) (Or.inl ⟨rf,?_⟩) ?_
      rotate_left
      ·(intro w hSw;(try dsimp only at hSw);go_simp<;>with_reducible rfl)
      try simp only[Act.put,pA,pZ,pS]
      refine ctk (i:=5) (v:= ?_) rfl (fun _ _ _ h=>h) (Or.inl ⟨rf,?_⟩) ?_
      rotate_left
      ·(intro w hSw;(try dsimp only at hSw);go_simp<;>with_reducible rfl)
      try simp only[Act.put,pA,pZ,pS]
      refine ctk (i:=6) (v:= ?_) rfl (fun _ _ _ h=>h) (Or.inl ⟨rf,?_⟩) ?_
      rotate_left
      ·(intro w hSw;(try dsimp only at hSw);go_simp<;>with_reducible rfl)
      try simp only[Act.put,pA,pZ,pS]
      refine ctk (i:=7) (v:= ?_) rfl (fun _ _ _ h=>h) (Or.inl ⟨rf,?_⟩) ?_
      rotate_left
      ·(intro w hSw;(try dsimp only at hSw);go_simp<;>with_reducible rfl)
      try simp only[Act.put,pA,pZ,pS]
      refine ctk (i:=8) (v:= ?_) rfl (fun _ _ _ h=>h) (Or.inl ⟨rf,?_⟩) ?_
      rotate_left
      ·(intro w hSw;(try dsimp only at hSw);go_simp<;>with_reducible rfl)
      try simp only[Act.put,pA,pZ,pS]
      refine ctk (i:=9) (v:= ?_) rfl (fun _ _ _ h=>h) (Or.inl ⟨rf,?_⟩) ?_
      rotate_left
      ·(intro w hSw;(try dsimp only at hSw);go_simp<;>with_reducible rfl)
      try simp only[Act.put,pA,pZ,pS]
      refine ctk (i:=10) (v:= ?_) rfl (fun _ _ _ h=>h) (Or.inl ⟨rf,?_⟩) ?_
      rotate_left
      ·(intro w hSw;(try dsimp only at hSw);go_simp<;>with_reducible rfl)
      try simp only[Act.put,pA,pZ,pS]
      refine ctk (i:=11) (v:= ?_) rfl (fun _ _ _ h=>h) (Or.inl ⟨rf,?_⟩) ?_
      rotate_left
      ·(intro w hSw;(try dsimp only at hSw);go_simp<;>with_reducible rfl)
      try simp only[Act.put,pA,pZ,pS]
      refine ctk (i:=12) (v:= ?_) rfl (fun _ _ _ h=>h) (Or.inl ⟨rf,?_⟩) ?_
      rotate_left
      ·(intro w hSw;(try dsimp only at hSw);go_simp<;>with_reducible rfl)
      try simp only[Act.put,pA,pZ,pS]
      refine ctk (i:=13) (v:= ?_) rfl (fun _ _ _ h=>h) (Or.inl ⟨rf,?_⟩) ?_
      rotate_left
      ·(intro w hSw;(try dsimp only at hSw);go_simp<;>with_reducible rfl)
      try simp only[Act.put,pA,pZ,pS]
      refine ctk (i:=14) (v:= ?_) rfl (fun _ _ _ h=>h) (Or.inl ⟨rf,?_⟩) ?_
      rotate_left
      ·(intro w hSw;(try dsimp only at hSw);go_simp<;>with_reducible rfl)
      try simp only[Act.put,pA,pZ,pS]
      refine ctk (i:=15) (v:= ?_) rfl (fun _ _ _ h=>h) (Or.inl ⟨rf,?_⟩) ?_
      rotate_left
      ·(intro w hSw;(try dsimp only at hSw);go_simp<;>with_reducible rfl)
      try simp only[Act.put,pA,pZ,pS]
      refine ctk (i:=16) (v:= ?_) rfl (fun _ _ _ h=>h) (Or.inl ⟨rf,?_⟩) ?_
      rotate_left
      ·(intro w hSw;(try dsimp only at hSw);go_simp<;>with_reducible rfl)
      try simp only[Act.put,pA,pZ,pS]
      refine ctk (i:=17) (v:= ?_) rfl (fun _ _ _ h=>h) (Or.inl ⟨rf,?_⟩) ?_
      rotate_left
      ·(intro w hSw;(try dsimp only at hSw);go_simp<;>with_reducible rfl)
      try simp only[Act.put,pA,pZ,pS]
      refine ctk (i:=18) (v:= ?_) rfl (fun _ _ _ h=>h) (Or.inl ⟨rf,?_⟩) ?_
      rotate_left
      ·(intro w hSw;(try dsimp only at hSw);go_simp<;>with_reducible rfl)
      try simp only[Act.put,pA,pZ,pS]
      refine ctk (i:=19) (v:= ?_) rfl (fun _ _ _ h=>h) (Or.inl ⟨rf,?_⟩) ?_
      rotate_left
      ·(intro w hSw;(try dsimp only at hSw);go_simp<;>with_reducible rfl)
      try simp only[Act.put,pA,pZ,pS]
      refine ctk (i:=20) (v:= ?_) rfl (fun _ _ _ h=>h) (Or.inl ⟨rf,?_⟩) ?_
      rotate_left
      ·(intro w hSw;(try dsimp only at hSw);go_simp<;>with_reducible rfl)
      try simp only[Act.put,pA,pZ,pS]
      refine wpAnyH_ready (rs:=[21]) kR sI ?_
      refine aY (iH rfl) (fun K hK=> ?_) bC
      go_simp
      refine hK.out _ _ (by(try dsimp only);go_keep) (fun hHeld=> ?_)
      clear hK K
      try simp only[Act.put,pA,pZ,pS]
      refine wpAnyH_ready (rs:=[22]) kR sI ?_
      refine aY (iH rfl) (fun K hK=> ?_) bC
      refine zx sH (base:=w.heap.size) (ms:=[.int .i64 s.nd,.int .i64 (s.pg*64+(k:Int)*(e:Int))]) rf (.tmp 28) (.tmp 49) rf rf rf ((HOk.out.alloc _).drew) rfl (fun j u hj=>nN wr _ _ _ j u hj) (nO _ _) om (by have:=HB2.out.size;simp;omega) ?_
      intro q4 k4 w4 iK hg4
      have hb4:Below w.heap.size w w4:=(HB2.out.alloc (by have:=HB2.out.size;simpa using this) _).drew.grown hg4 (by have:=HB2.out.size;simp;omega) (fun r hr=>(HOk.out.lt r hr).1)
      obtain⟨z0,z1,_,_,_,zl,_⟩:=(SW.out.keep (Keep.of (S:=[]) hb4) sI sI).cells
      have zp:w4.cell? ⟨pc,1,none⟩=some (.int .i64 e):=(hb4.cell (p:=⟨pc,1,none⟩) cl).trans c1
      refine hK.out _ _ (by(try dsimp only);go_keep) (fun hHeld=> ?_)
      clear hK K
      try simp only[Act.put,pA,pZ,pS]
      refine wpAnyH_done kR ?_ _
      simp only[nR,aS,bq]
      go_wp2
      go_round
      case rel=>
       refine⟨k+1,om,by go_num,?_,hb4⟩
       show World.ownsRow _ _ _ _ _ _ _
       rw[KN.out,aU,←Nat.add_assoc,←cK,jS]
       exact iK
      case measure=>simp[intOf];omega
    ·obtain rfl:k=l:=by omega
     go_wp2
     go_round
     case rel=>
      refine⟨i+1,om,by go_num,?_,hbk⟩
      show World.ownsRow _ _ _ _ _ _ _
      have:=HOk.out
      rw[HKA.out,←aU,←SN.out] at this
      exact this
     case measure=>simp[intOf];omega
  ·obtain rfl:i=nn:=by omega
   have HO':=HO.out
   rw[ALL.out] at HO'
   have HOO:=ah HO'
   clear HO HO'
   go_wp2
   go_ret
   exact⟨_,rfl,HOO.out,hbel⟩
def AJ (l:List Pl):List Value:=l.flatMap fun p=>[.int .i64 p.1,.int .i64 p.2.1,.int .i64 p.2.2]
theorem zG (l:List Pl) (p:Pl):AJ (l++[p])=AJ l++[.int .i64 p.1,.int .i64 p.2.1,.int .i64 p.2.2]:=by simp[AJ]
theorem vw {C:List Sl} {i:Nat} {s:Sl} (h:C[i]?=some s):kJ (C.take (i+1))=kJ (C.take i)++[(s.nd,s.pg,0)]:=by
 rw[bH,h]
 unfold kJ
 simp
theorem Da (C:List Sl):(kJ C).length=C.length:=by unfold kJ;simp
theorem FV (h:CS B w pc pz mn lw hi O e X vs A c) (hI:l8 e c):
 Calls Tryz.prog 137 #[.pointer (some ⟨pc,0,none⟩)] w fun r w'=>∃q k,r= .returned (.slice q c.C.length k)∧w'.ownsRow w.heap.size 61 3 (.slice q c.C.length k) c.C.length (AJ (kJ c.C))∧Below w.heap.size w w':=by
 obtain⟨qv,kv,evs,kv1,kv2,hrow⟩:=h.ch.form
 subst evs
 have few:=hI.few
 have rR:=ah hrow;have HC:=ah h.ch
 have c2:=h.ch.c.c 2 _ rfl;have cl:=h.ch.c.lt
 have ALL:Hid (c.C.take c.C.length=c.C):=by show _=_;simp
 obtain⟨nn,hnn⟩: ∃nn,nn=c.C.length:=⟨_,rfl⟩
 have EN:=ah hnn
 rw[←hnn] at c2 few kv1 ALL ⊢
 unfold maxLen at kv2
 clear h hI hrow hnn
 go_enter Tryz.func137,Tryz.ntmps137
 go_wp2_with fail
 go_loopw [3,11] (fun ov iv wr=>∃(i:Nat) (q:Option Addr) (k:Nat),i≤nn∧iv= .int .i64 i∧ov= .slice q i k∧Hid (wr.ownsRow w.heap.size 61 3 (.slice q i k) i (AJ (kJ (c.C.take i))))∧Below w.heap.size w wr) (fun _ iv _=>nn-(intOf iv).toNat)
 case atStart=>exact⟨0,none,0,om,by go_num,rfl,aR _ _ _ _,aJ _ _⟩
 case round=>
  obtain⟨i,q,k,hile,rfl,rfl,HO,hbel⟩:=hrel
  by_cases hin:i<nn
  ·obtain⟨s,hs⟩: ∃s,c.C[i]?=some s:=⟨c.C[i]'(by rw[←EN.out];exact hin),au _⟩
   obtain⟨p,hp,hsl,_⟩:=(HC.out.below hbel).at hs
   obtain⟨g,rfl,hg,hc0⟩:=rR.out i p hp
   have ck:wr.cell? ⟨g,i,none⟩=some (.pointer (some ⟨p.1,0,none⟩)):=(hbel.cell (p:=⟨g,i,none⟩) hg).trans hc0
   have gl:g<wr.heap.size:=aF hg hbel.size
   have hik:i<kv:=om
   obtain⟨d0,d1,d2,d3,d4,dl,dl2⟩:=hsl.cells
   have SN:=ah (vw hs)
   have HB:=ah hbel
   clear hc0 hsl hs hp
   go_wp2_with (first|(at_builtin;refine vk elPl (base:=w.heap.size) (v:=.slice q i k) (n:=i) (ms:=[.int .i64 s.nd,.int .i64 s.pg,.int .i64 0]) rf (.tmp 15) (.tmp 20) rf rf rf (HO.out.alloc _) rfl (zy _ _ _ _ _) (by intro u hu;simp at hu;rcases hu with rfl|rfl|rfl<;>rfl) om (by have:=HB.out.size;simp;omega) ?_;intro q4 k4 w4 iK hg4))
   have hb4:Below w.heap.size w w4:=(HB.out.alloc (by have:=HB.out.size;simpa using this) _).grown hg4 (by have:=HB.out.size;simp;omega) (fun r hr=>(HO.out.lt r hr).1)
   have HO4:=ah iK
   clear iK hg4
   go_wp2
   go_round
   case rel=>exact⟨i+1,q4,k4,om,by go_num,rfl,(show World.ownsRow _ _ _ _ _ _ _ by rw[SN.out,zG];exact HO4.out),hb4⟩
   case measure=>simp[intOf];omega
  ·obtain rfl:i=nn:=by omega
   have HO':=HO.out
   rw[ALL.out] at HO'
   have HOO:=ah HO'
   clear HO HO'
   go_wp2
   go_ret
   exact⟨_,_,rfl,HOO.out,hbel⟩
end
end
section
def behindO (e:Nat) (a b:Ob):Prop:=a.1<b.1∨a.1=b.1∧a.2+e≤b.2
theorem u7 {e:Nat} {s:Sl} {o:Ob}:o∈obsS e s↔∃k,s.T[k]?=some true∧o=mg e s k:=by
 unfold obsS
 rw[List.mem_filterMap]
 constructor
 ·rintro⟨k,_,h⟩
  split at h
  ·rename_i hk
   exact⟨k,hk,(aH h).symm⟩
  ·cases h
 ·rintro⟨k,hk,rfl⟩
  exact⟨k,fI.2 (aj.1 hk).1,by rw[if_pos hk]⟩
theorem lU {e:Nat} {C:List Sl} {o:Ob}:o∈jQ e C↔∃s∈C,∃k,s.T[k]?=some true∧o=mg e s k:=by
 unfold jQ
 simp only[eH,u7]
theorem FW {e:Nat} (e1:1≤e) {s:Sl} (hl:s.T.length=iM e) {k:Nat} (hk:s.T[k]?=some true):s.pg*64≤(mg e s k).2∧(mg e s k).2+e≤s.pg*64+64∧(mg e s k).1=s.nd:=by
 have hlt:=(aj.1 hk).1
 rw[hl] at hlt
 have h1:(k+1)*e≤64:=bN (gY e (show k+1≤iM e by omega)) (Nat.div_mul_le_self 64 e)
 have h2:((k:Int)+1)*e≤64:=by exact_mod_cast h1
 have h3:0≤(k:Int)*e:=dL om om
 rw[Int.add_mul,Int.one_mul] at h2
 refine⟨?_,?_,rfl⟩
 ·show s.pg*64≤s.pg*64+(k:Int)*e
  omega
 ·show s.pg*64+(k:Int)*e+e≤_
  omega
theorem ob_one {e:Nat} {c:Ca} (h:l8 e c) {o:Ob} (ho:o∈jQ e c.C):0≤o.2∧o.2<16384∧o.2 / 64=(o.2+e-1) / 64:=by
 obtain⟨s,hs,k,hk,rfl⟩:=lU.1 ho
 have h1:=FW h.e1 (h.len s hs) hk
 have h2:=h.rng hs
 have h3:=h.e1
 omega
theorem give_has {e:Nat} {c:Ca} (h:l8 e c) {o:Ob} (ho:o∈jQ e c.C):(lJ e c o).2=0:=by
 obtain⟨s,hs,k,hk,rfl⟩:=lU.1 ho
 unfold lJ
 cases hf:qH e (mg e s k) c.C with
 |none=>
  have h1:=pW hf s hs
  have h2:sW e (mg e s k) s=true:=(nC h.e1).2 ⟨by rw[ou h.e1 rfl];exact hk,by rw[ou h.e1 rfl]⟩
  rw[h1] at h2;cases h2
 |some i=>
  obtain⟨z,hz,_⟩:=mh hf
  simp only[hz]
def OnlyP (c:Ca):Prop:=∀(i:Nat) (x:Nd),c.L[i]?=some x→∀p∈x.T,∃s∈c.C,s.nd=i∧s.pg=p.1
def cntN (v:Int) (C:List Sl):Nat:=C.countP fun s=>decide (s.nd=v)
end
section
section
variable {e:Nat} {c:Ca}
theorem pO {C:List Sl} {x:Ob}:x∈jQ e C↔∃(i:Nat) (s:Sl) (k:Nat),C[i]?=some s∧s.T[k]?=some true∧x=mg e s k:=by
 rw[lU]
 constructor
 ·rintro⟨s,hs,k,hk,rfl⟩
  obtain⟨i,hi,rfl⟩:=fT.1 hs
  exact⟨i,_,k,au hi,hk,rfl⟩
 ·rintro⟨i,s,k,hs,hk,rfl⟩
  exact⟨s,aB hs,k,hk,rfl⟩
theorem ob_pg (e1:1≤e) {s:Sl} (hl:s.T.length=iM e) {k:Nat} (hk:k<s.T.length):0≤(k:Int)*e∧(k:Int)*e+e≤64:=by
 rw[hl] at hk
 have h1:(k+1)*e≤64:=bN (gY e (show k+1≤iM e by omega)) (Nat.div_mul_le_self 64 e)
 have h2:((k:Int)+1)*e≤64:=by exact_mod_cast h1
 rw[Int.add_mul,Int.one_mul] at h2
 exact⟨dL om om,h2⟩
theorem mul_inj {e k k':Nat} (e1:1≤e) (h:(k:Int)*e=(k':Int)*e):k=k':=by
 have h2:k*e=k'*e:=by exact_mod_cast h
 exact Nat.eq_of_mul_eq_mul_right om h2
theorem ob_at (h:l8 e c) {i j:Nat} {s t:Sl} {k k':Nat} (hs:c.C[i]?=some s) (ht:c.C[j]?=some t) (hk:k<s.T.length) (hk':k'<t.T.length) (heq:mg e s k=mg e t k'):i=j∧k=k':=by
 have e1:=h.e1
 have a:=ob_pg e1 (h.len s (aB hs)) hk
 have b:=ob_pg e1 (h.len t (aB ht)) hk'
 unfold mg at heq
 injection heq with q1 q2
 have hi:=(aj.1 hs)
 have hj:=(aj.1 ht)
 obtain⟨li,ei⟩:=hi
 obtain⟨lj,ej⟩:=hj
 have hp:s.pg=t.pg:=om
 have hij:i=j:=by
  rcases fH i j with q|q|q
  ·have:=bT.1 h.srt i j li lj q
   rw[ei,ej] at this
   unfold ltS ltP at this;omega
  ·exact q
  ·have:=bT.1 h.srt j i lj li q
   rw[ei,ej] at this
   unfold ltS ltP at this;omega
 refine⟨hij,mul_inj e1 ?_⟩
 omega
theorem FX (h:l8 e c) {i:Nat} {s:Sl} (hs:c.C[i]?=some s) {k:Nat} (hk:k<s.T.length) (b:Bool) (x:Ob):
 x∈jQ e (c.C.set i (jH s k b))↔(x=mg e s k∧b=true)∨(x∈jQ e c.C∧x≠mg e s k):=by
 have hil:=(aj.1 hs).1
 rw[pO]
 constructor
 ·rintro⟨j,z,m,hz,hm,rfl⟩
  by_cases hij:i=j
  ·subst hij
   rw[aL hil] at hz
   obtain rfl:=aH hz
   simp only[jH] at hm
   by_cases hmk:k=m
   ·subst hmk
    rw[aL hk] at hm
    exact .inl ⟨rfl,aH hm⟩
   ·rw[bD hmk] at hm
    refine .inr ⟨pO.2 ⟨i,s,m,hs,hm,rfl⟩,fun q=>hmk ?_⟩
    exact(ob_at h hs hs hk (aj.1 hm).1 (show mg e s k=mg e s m from q.symm)).2
  ·rw[bD hij] at hz
   refine .inr ⟨pO.2 ⟨j,z,m,hz,hm,rfl⟩,fun q=>hij ?_⟩
   exact(ob_at h hs hz hk (aj.1 hm).1 q.symm).1
 ·rintro(⟨rfl,rfl⟩|⟨hx,hne⟩)
  ·exact⟨i,jH s k true,k,aL hil,by simp only[jH];exact aL hk,rfl⟩
  ·obtain⟨j,z,m,hz,hm,rfl⟩:=pO.1 hx
   by_cases hij:i=j
   ·subst hij
    rw[hs] at hz
    obtain rfl:=aH hz
    have hmk:k≠m:=fun q=>hne (by rw[q])
    exact⟨i,jH s k b,m,aL hil,by simp only[jH];rw[bD hmk];exact hm,rfl⟩
   ·exact⟨j,z,m,by rw[bD hij];exact hz,hm,rfl⟩
theorem give_obs (h:l8 e c) {o:Ob} (x:Ob):x∈jQ e (lJ e c o).1.C↔x∈jQ e c.C∧x≠o:=by
 cases hf:qH e o c.C with
 |none=>
  have:(lJ e c o).1=c:=by unfold lJ;rw[hf]
  rw[this]
  refine⟨fun hx=>⟨hx,fun q=> ?_⟩,And.left⟩
  subst q
  obtain⟨i,s,k,hs,hk,rfl⟩:=pO.1 hx
  have h1:=pW hf s (aB hs)
  have h2:sW e (mg e s k) s=true:=(nC h.e1).2 ⟨by rw[ou h.e1 rfl];exact hk,by rw[ou h.e1 rfl]⟩
  rw[h1] at h2;cases h2
 |some i=>
  obtain⟨s,hs,hh,_⟩:=mh hf
  obtain⟨k1,k2⟩:=(nC h.e1).1 hh
  have:(lJ e c o).1.C=c.C.set i (jH s (kOf e o s) false):=by unfold lJ;rw[hf];simp only[hs]
  rw[this,FX h hs (aj.1 k1).1]
  rw[←k2]
  simp
theorem xW {mn:Int} {O:List (List Int)} (hO:vV O c.L.length) (h:l8 e c) (v:Int) (u:Bool):
 ((takeC mn O e c v u).2.1=0∧(takeC mn O e c v u).2.2∉jQ e c.C∧∀x,x∈jQ e (takeC mn O e c v u).1.C↔x=(takeC mn O e c v u).2.2∨x∈jQ e c.C)∨
 ((takeC mn O e c v u).2.1≠0∧(takeC mn O e c v u).1.C=c.C):=by
 have hI':=pI (mn:=mn) (v:=v) (u:=u) hO h
 revert hI'
 unfold takeC
 by_cases hv:v<0∨(c.L.length:Int)≤v
 ·rw[if_pos hv];intro _;exact .inr ⟨sI,rfl⟩
 rw[if_neg hv]
 cases hb:jU v c.C c.C.length with
 |some i=>
  obtain⟨_,s,hs,_,hm⟩:=jO hb
  simp only[hs]
  intro _
  obtain⟨f1,f2,_⟩:=jr (T:=s.T) hm
  refine .inl ⟨trivial,fun hx=> ?_,fun x=> ?_⟩
  ·obtain⟨j,z,m,hz,hm',he⟩:=pO.1 hx
   obtain⟨q1,q2⟩:=ob_at h hs hz f1 (aj.1 hm').1 he
   subst q1 q2
   rw[hs] at hz
   obtain rfl:=aH hz
   rw[f2] at hm'
   cases hm'
  ·rw[FX h hs f1]
   constructor
   ·rintro(⟨q,_⟩|⟨q,_⟩)
    ·exact .inl q
    ·exact .inr q
   ·rintro(q|q)
    ·exact .inl ⟨q,rfl⟩
    ·by_cases hq:x=mg e s (iO s.T)
     ·exact .inl ⟨hq,rfl⟩
     ·exact .inr ⟨q,hq⟩
 |none=>
  simp only
  by_cases hz:(j4 mn O c.L v 0 u).2.1=0
  ·rw[if_pos hz]
   intro hI'
   generalize hnd:(j4 mn O c.L v 0 u).2.2.1=nd at*
   generalize hpg:(j4 mn O c.L v 0 u).2.2.2.1=pg at*
   generalize(j4 mn O c.L v 0 u).1=L' at*
   have e1:=h.e1
   have hr:=pG h.e1 h.e2
   have hnl:(iG e).length=iM e:=by unfold iG;simp
   have hob: ∀x,x∈obsS e (jH ⟨nd,pg,iG e⟩ 0 true)↔x=(nd,pg*64):=fun x=>by
    rw[u7]
    constructor
    ·rintro⟨k,hk,rfl⟩
     simp only[jH] at hk
     by_cases hk0:k=0
     ·subst hk0;simp[mg,jH]
     ·rw[bD (Ne.symm hk0)] at hk
      unfold iG at hk
      rw[eG] at hk
      split at hk<;>simp at hk
    ·rintro rfl
     exact⟨0,by simp only[jH];exact aL (by rw[hnl];exact hr),by simp[mg,jH]⟩
   refine .inl ⟨rfl,fun hx=> ?_,fun x=> ?_⟩
   ·obtain⟨z,hzm,m,hm,he⟩:=lU.1 hx
    have hs:=hI'.srt
    have hz':=(oz (C:=c.C) (s:=jH ⟨nd,pg,iG e⟩ 0 true)).2 (.inr hzm)
    have hp:=FW e1 (h.len z hzm) hm
    rw[←he] at hp
    simp only at hp
    have hpg2:z.pg=pg:=om
    have hnd2:z.nd=nd:=om
    unfold oP at hs
    obtain⟨s1,s2,s3⟩:=dK.1 hs
    rw[←bP (oK (jH ⟨nd,pg,iG e⟩ 0 true).nd (jH ⟨nd,pg,iG e⟩ 0 true).pg c.C) c.C] at hzm
    rcases aG.1 hzm with q|q
    ·have:=s3 z q _ (aD ..)
     unfold ltS ltP at this
     simp only[jH] at this
     omega
    ·have:=(bG.1 s2).1 z q
     unfold ltS ltP at this
     simp only[jH] at this
     omega
   ·constructor
    ·intro hx
     obtain⟨z,hzm,m,hm,he⟩:=lU.1 hx
     rcases oz.1 hzm with q|q
     ·exact .inl ((hob x).1 (u7.2 ⟨m,by rw[←q];exact hm,by rw[←q];exact he⟩))
     ·exact .inr (lU.2 ⟨z,q,m,hm,he⟩)
    ·rintro(q|q)
     ·obtain⟨m,hm,he⟩:=u7.1 ((hob x).2 q)
      exact lU.2 ⟨_,oz.2 (.inl rfl),m,hm,he⟩
     ·obtain⟨z,hzm,m,hm,he⟩:=lU.1 q
      exact lU.2 ⟨z,oz.2 (.inr hzm),m,hm,he⟩
  ·rw[if_neg hz]
   intro _
   exact .inr ⟨hz,rfl⟩
def jd (e:Nat) (c:Ca) (l:List Ob):Ca:=l.foldl (fun c o=>(lJ e c o).1) c
theorem rC (l m:List Ob):jd e c (l++m)=jd e (jd e c l) m:=by unfold jd;rw[List.foldl_append]
theorem jL: ∀{l:List Ob} {c:Ca},l8 e c→l8 e (jd e c l)∧(jd e c l).L=c.L∧∀x,x∈jQ e (jd e c l).C↔x∈jQ e c.C∧x∉l
 |[],c,h=>⟨h,rfl,fun x=>by simp[jd]⟩
 |o::l,c,h=>by
  obtain⟨h1,h2,h3⟩:=jL (l:=l) (F6 (o:=o) h)
  refine⟨h1,h2.trans (wR e c o),fun x=> ?_⟩
  show x∈jQ e (jd e (lJ e c o).1 l).C↔_
  rw[h3 x,give_obs h]
  simp
  constructor
  ·rintro⟨⟨a,b⟩,d⟩;exact⟨a,b,d⟩
  ·rintro⟨a,b,d⟩;exact⟨⟨a,b⟩,d⟩
end
abbrev Hd:=List Ob×List Ob
structure De where
 c:Ca
 H:List Hd
 P:List (List Ob)
def je (h:Hd) (P:List (List Ob)):Hd×List (List Ob):=
 if h.1=[] then(if h.2=[] then(match P.getLast? with|some m=>((m,[]),P.dropLast)|none=>(h,P)) else((h.2,[]),P)) else(h,P)
def jw (h:Hd) (P:List (List Ob)):Hd×List (List Ob):=
 if h.1.length=4 then(if h.2=[] then(([],h.1),P) else(([],h.2),P++[h.1])) else(h,P)
def jI (d:De) (k:Int):Option Hd:=if k<0 then none else d.H[k.toNat]?
def jf (H:List Hd):List Ob:=H.flatMap fun h=>h.1++h.2
def held (d:De):List Ob:=jf d.H++d.P.flatten
def vB (e:Nat) (d:De) (o:Ob):Bool:=decide (o∈jQ e d.c.C)&& !decide (o∈held d)
def takeD (mn:Int) (O:List (List Int)) (e:Nat) (d:De) (k v:Int) (u:Bool):De×Nat×Ob:=match jI d k with
 |none=>(d,2,(0,0))
 |some h=>match (je h d.P).1.1.getLast? with
  |some o=>(⟨d.c,d.H.set k.toNat ((je h d.P).1.1.dropLast,(je h d.P).1.2),(je h d.P).2⟩,0,o)
  |none=>(⟨(takeC mn O e d.c v u).1,d.H,d.P⟩,(takeC mn O e d.c v u).2.1,(takeC mn O e d.c v u).2.2)
def iU (e:Nat) (d:De) (k:Int) (o:Ob):De×Nat:=match jI d k with
 |none=>(d,2)
 |some h=>if vB e d o=true then(⟨d.c,d.H.set k.toNat ((jw h d.P).1.1++[o],(jw h d.P).1.2),(jw h d.P).2⟩,0) else(d,9)
def jg (e:Nat) (d:De) (k:Int):De×Nat×Nat:=match jI d k with
 |none=>(d,2,0)
 |some h=>(⟨jd e d.c (h.1++h.2),d.H.set k.toNat ([],[]),d.P⟩,0,(h.1++h.2).length)
def kL (e:Nat) (d:De):De×Nat:=(⟨jd e d.c d.P.flatten,d.H,[]⟩,d.P.flatten.length)
structure jY (e:Nat) (d:De):Prop where
 c:l8 e d.c
 hl:1≤d.H.length∧d.H.length≤4
 sub: ∀o∈held d,o∈jQ e d.c.C
 nd:(held d).Nodup
 h4: ∀h∈d.H,h.1.length≤4∧h.2.length≤4
 p4: ∀m∈d.P,m.length=4
theorem jP {d:De} {k:Int} {h:Hd} (q:jI d k=some h):0≤k∧d.H[k.toNat]?=some h∧k.toNat<d.H.length∧(k.toNat:Int)=k:=by
 unfold jI at q
 split at q
 ·cases q
 ·exact⟨om,q,(aj.1 q).1,om⟩
theorem nZ {d:De} {k:Int} (q:jI d k=none):k<0∨(d.H.length:Int)≤k:=by
 unfold jI at q
 split at q
 ·exact .inl ‹_›
 ·have:=List.getElem?_eq_none_iff.1 q
  exact .inr om
theorem rD (a:Ob): ∀{H:List Hd} {k:Nat} {h:Hd} (g:Hd),H[k]?=some h→(jf (H.set k g)).count a+h.1.count a+h.2.count a=(jf H).count a+g.1.count a+g.2.count a
 |[],k,h,g,q=>by simp at q
 |b::H,0,h,g,q=>by
  simp at q;subst q
  show((g.1++g.2)++jf H).count a+_+_=((b.1++b.2)++jf H).count a+_+_
  simp only[dz];omega
 |b::H,k+1,h,g,q=>by
  have ih:=rD a (H:=H) (k:=k) g (by simpa using q)
  show((b.1++b.2)++jf (H.set k g)).count a+_+_=((b.1++b.2)++jf H).count a+_+_
  simp only[dz] at ih ⊢;omega
theorem Cb (a:Ob): ∀{H:List Hd} {k:Nat} {h:Hd},H[k]?=some h→h.1.count a+h.2.count a≤(jf H).count a
 |[],k,h,q=>by simp at q
 |b::H,0,h,q=>by
  simp at q;subst q
  show _≤((b.1++b.2)++jf H).count a
  simp only[dz];omega
 |b::H,k+1,h,q=>by
  have ih:=Cb a (H:=H) (k:=k) (h:=h) (by simpa using q)
  show _≤((b.1++b.2)++jf H).count a
  simp only[dz] at ih ⊢;omega
theorem FY (a:Ob) (h:Hd) (P:List (List Ob)):(je h P).1.1.count a+(je h P).1.2.count a+(je h P).2.flatten.count a=h.1.count a+h.2.count a+P.flatten.count a:=by
 unfold je
 split
 ·rename_i q1
  split
  ·rename_i q2
   split
   ·rename_i m q3
    obtain⟨ys,rfl⟩:=List.getLast?_eq_some_iff.1 q3
    simp[q1,q2,dz]
    omega
   ·rfl
  ·simp[q1]
 ·rfl
theorem FZ (a:Ob) (h:Hd) (P:List (List Ob)):(jw h P).1.1.count a+(jw h P).1.2.count a+(jw h P).2.flatten.count a=h.1.count a+h.2.count a+P.flatten.count a:=by
 unfold jw
 split
 ·split
  ·rename_i q2
   simp[q2]
  ·simp[dz];omega
 ·rfl
theorem G5 {h:Hd} {P:List (List Ob)} (h1:h.1.length≤4∧h.2.length≤4) (hp: ∀m∈P,m.length=4):((je h P).1.1.length≤4∧(je h P).1.2.length≤4)∧∀m∈(je h P).2,m.length=4:=by
 unfold je
 split
 ·split
  ·split
   ·rename_i m q3
    have:=hp m (List.mem_of_getLast? q3)
    exact⟨⟨by simp;omega,sI⟩,fun x hx=>hp x (List.dropLast_subset _ hx)⟩
   ·exact⟨h1,hp⟩
  ·exact⟨⟨h1.2,sI⟩,hp⟩
 ·exact⟨h1,hp⟩
theorem G6 {h:Hd} {P:List (List Ob)} (h1:h.1.length≤4∧h.2.length≤4) (hp: ∀m∈P,m.length=4):((jw h P).1.1.length≤3∧(jw h P).1.2.length≤4)∧∀m∈(jw h P).2,m.length=4:=by
 unfold jw
 split
 ·rename_i q
  split
  ·exact⟨⟨sI,by simp[q]⟩,hp⟩
  ·refine⟨⟨sI,h1.2⟩,fun x hx=> ?_⟩
   rcases aG.1 hx with r|r
   ·exact hp x r
   ·simp at r;subst r;exact q
 ·exact⟨⟨by show h.1.length≤3;omega,h1.2⟩,hp⟩
theorem jY.of {e:Nat} {d:De} (c:l8 e d.c) (hl:1≤d.H.length∧d.H.length≤4) (hs: ∀a,(held d).count a≤1∧((held d).count a=1→a∈jQ e d.c.C)) (h4: ∀h∈d.H,h.1.length≤4∧h.2.length≤4) (p4: ∀m∈d.P,m.length=4):jY e d:=
 ⟨c,hl,fun o ho=>(hs o).2 (by have:=(hs o).1;have:=dh.2 ho;omega),fu.2 fun a=>(hs a).1,h4,p4⟩
theorem jY.cnt {e:Nat} {d:De} (h:jY e d) (a:Ob):(held d).count a≤1∧(0<(held d).count a→a∈jQ e d.c.C):=⟨fu.1 h.nd a,fun q=>h.sub a (dh.1 q)⟩
theorem lV (d:De) (a:Ob):(held d).count a=(jf d.H).count a+d.P.flatten.count a:=by unfold held;rw[dz]
section
variable {mn:Int} {O:List (List Int)} {e:Nat} {d:De} {k v:Int} {u:Bool} {o:Ob} {h:Hd}
theorem jD (hh:jI d k=some h) (hl:(je h d.P).1.1.getLast?=some o):takeD mn O e d k v u=(⟨d.c,d.H.set k.toNat ((je h d.P).1.1.dropLast,(je h d.P).1.2),(je h d.P).2⟩,0,o):=by
 unfold takeD;rw[hh];simp only[hl]
theorem jW (hh:jI d k=some h) (hl:(je h d.P).1.1.getLast?=none):takeD mn O e d k v u=(⟨(takeC mn O e d.c v u).1,d.H,d.P⟩,(takeC mn O e d.c v u).2.1,(takeC mn O e d.c v u).2.2):=by
 unfold takeD;rw[hh];simp only[hl]
theorem mQ (hh:jI d k=none):takeD mn O e d k v u=(d,2,(0,0)):=by unfold takeD;rw[hh]
theorem G7 (hh:jI d k=some h) (hl:(je h d.P).1.1.getLast?=some o) (a:Ob):(held (takeD mn O e d k v u).1).count a+(if o=a then 1 else 0)=(held d).count a:=by
 rw[jD hh hl,lV,lV]
 obtain⟨_,h1,_⟩:=jP hh
 have c1:=rD a ((je h d.P).1.1.dropLast,(je h d.P).1.2) h1
 have c2:=FY a h d.P
 obtain⟨ys,hy⟩:=List.getLast?_eq_some_iff.1 hl
 simp only[hy,List.dropLast_concat,dz,List.count_singleton,beq_iff_eq] at c1 c2 ⊢
 by_cases q:o=a
 ·simp only[q,if_true] at c2 ⊢;omega
 ·simp only[q,if_false] at c2 ⊢;omega
theorem rE (hO:vV O d.c.L.length) (hI:jY e d):jY e (takeD mn O e d k v u).1:=by
 cases hh:jI d k with
 |none=>rw[mQ hh];exact hI
 |some h=>
  cases hl:(je h d.P).1.1.getLast? with
  |some o=>
   have hc:=G7 (mn:=mn) (O:=O) (e:=e) (v:=v) (u:=u) hh hl
   obtain⟨k0,h1,h2,_⟩:=jP hh
   have hm:=G5 (hI.h4 h (aB h1)) hI.p4
   rw[jD hh hl] at hc ⊢
   refine jY.of hI.c (by simpa using hI.hl) (fun a=> ?_) (fun g hg=> ?_) hm.2
   ·obtain⟨a1,a2⟩:=hI.cnt a
    have:=hc a
    exact⟨om,fun q=>a2 om⟩
   ·rcases bS hg with q|q
    ·exact hI.h4 g q
    ·subst q
     exact⟨by simp;omega,hm.1.2⟩
  |none=>
   rw[jW hh hl]
   refine jY.of (pI hO hI.c) hI.hl (fun a=> ?_) hI.h4 hI.p4
   obtain⟨a1,a2⟩:=hI.cnt a
   refine⟨a1,fun q=> ?_⟩
   have:=a2 (by show 0<(held d).count a;exact(by have:(held d).count a=1:=q;omega))
   rcases xW (mn:=mn) (O:=O) hO hI.c v u with⟨_,_,t⟩|⟨_,t⟩
   ·exact(t a).2 (.inr this)
   ·show a∈jQ e (takeC mn O e d.c v u).1.C
    rw[t];exact this
theorem give_cnt (hh:jI d k=some h) (ho:vB e d o=true) (a:Ob):(held (iU e d k o).1).count a=(held d).count a+(if o=a then 1 else 0):=by
 unfold iU
 rw[hh]
 simp only[ho,if_true]
 rw[lV,lV]
 obtain⟨_,h1,_⟩:=jP hh
 have c1:=rD a ((jw h d.P).1.1++[o],(jw h d.P).1.2) h1
 have c2:=FZ a h d.P
 simp only[dz,List.count_singleton,beq_iff_eq] at c1 c2 ⊢
 by_cases q:o=a
 ·simp only[q,if_true] at c1 c2 ⊢;omega
 ·simp only[q,if_false] at c1 c2 ⊢;omega
theorem Cc:vB e d o=true↔o∈jQ e d.c.C∧o∉held d:=by unfold vB;simp
theorem vC (hI:jY e d):jY e (iU e d k o).1:=by
 cases hh:jI d k with
 |none=>
  have:iU e d k o=(d,2):=by unfold iU;rw[hh]
  rw[this];exact hI
 |some h=>
  by_cases ho:vB e d o=true
  ·have hc:=give_cnt hh ho
   obtain⟨q1,q2⟩:=Cc.1 ho
   obtain⟨k0,h1,h2,_⟩:=jP hh
   have hm:=G6 (hI.h4 h (aB h1)) hI.p4
   have he:iU e d k o=(⟨d.c,d.H.set k.toNat ((jw h d.P).1.1++[o],(jw h d.P).1.2),(jw h d.P).2⟩,0):=by unfold iU;rw[hh];simp only[ho,if_true]
   rw[he] at hc ⊢
   dsimp only at hc ⊢
   refine jY.of hI.c (by simpa using hI.hl) (fun a=> ?_) (fun g hg=> ?_) hm.2
   ·obtain⟨a1,a2⟩:=hI.cnt a
    have:=hc a
    by_cases q:o=a
    ·subst q
     have z:(held d).count o=0:=List.count_eq_zero.2 q2
     simp only[if_true] at this
     exact⟨om,fun _=>q1⟩
    ·simp only[q,if_false] at this
     exact⟨om,fun r=>a2 om⟩
   ·rcases bS hg with q|q
    ·exact hI.h4 g q
    ·subst q
     exact⟨by simp;omega,hm.1.2⟩
  ·have he:iU e d k o=(d,9):=by unfold iU;rw[hh];simp only[ho];rfl
   rw[he];exact hI
theorem Db (hI:jY e d):jY e (jg e d k).1:=by
 cases hh:jI d k with
 |none=>
  have:jg e d k=(d,2,0):=by unfold jg;rw[hh]
  rw[this];exact hI
 |some h=>
  obtain⟨k0,h1,h2,_⟩:=jP hh
  have he:jg e d k=(⟨jd e d.c (h.1++h.2),d.H.set k.toNat ([],[]),d.P⟩,0,(h.1++h.2).length):=by unfold jg;rw[hh]
  rw[he]
  obtain⟨b1,b2,b3⟩:=jL (l:=h.1++h.2) hI.c
  refine jY.of b1 (by simpa using hI.hl) (fun a=> ?_) (fun g hg=> ?_) hI.p4
  ·obtain⟨a1,a2⟩:=hI.cnt a
   have c1:=rD a (([],[]):Hd) h1
   rw[lV] at a1 a2 ⊢
   simp only[List.count_nil] at c1
   refine⟨by simp only;omega,fun q=>(b3 a).2 ⟨a2 (by simp only at q;omega),fun r=> ?_⟩⟩
   have:=dh.2 r
   rw[dz] at this
   simp only at q
   omega
  ·rcases bS hg with q|q
   ·exact hI.h4 g q
   ·subst q;simp
theorem Dc (hI:jY e d):jY e (kL e d).1:=by
 obtain⟨b1,b2,b3⟩:=jL (l:=d.P.flatten) hI.c
 refine jY.of b1 hI.hl (fun a=> ?_) hI.h4 (fun m hm=>by cases hm)
 obtain⟨a1,a2⟩:=hI.cnt a
 rw[lV] at a1 a2
 have:(held (kL e d).1).count a=(jf d.H).count a:=by rw[lV];simp[kL]
 rw[this]
 refine⟨om,fun q=>(b3 a).2 ⟨a2 om,fun r=> ?_⟩⟩
 have:=dh.2 r
 omega
theorem vD: ∀{l r:List Ob},l.Nodup→(∀x∈l,x∈r)→l.length≤r.length
 |[],r,_,_=>aO _
 |a::l,r,h,hs=>by
  obtain⟨h1,h2⟩:=aZ.1 h
  have ha:=hs a sI
  have:=vD (l:=l) (r:=r.erase a) h2 fun x hx=>(List.mem_erase_of_ne (fun q=>h1 (by rw[←q];exact hx))).2 (hs x (ak _ hx))
  rw[List.length_erase_of_mem ha] at this
  have:=List.length_pos_of_mem ha
  simp only[dw];omega
theorem ji (hI:jY e d):4*d.P.length≤(jQ e d.c.C).length∧(held d).length≤(jQ e d.c.C).length:=by
 have h1:=vD hI.nd hI.sub
 have h2: ∀{P:List (List Ob)},(∀m∈P,m.length=4)→P.flatten.length=4*P.length:=by
  intro P
  induction P with
  |nil=>intro _;rfl
  |cons a P ih=>
   intro h
   simp only[List.flatten_cons,aU,dw,ih fun m hm=>h m (ak _ hm),h a sI]
   omega
 have h3:(held d).length=(jf d.H).length+d.P.flatten.length:=by unfold held;simp
 rw[h2 hI.p4] at h3
 omega
end
end
section
open Go.RowKit Go.Maps
def j5 (X:List Nat) (w:World) (v:Value) (l:List Ob):Prop:=
 ∃p cap,v= .slice p l.length cap∧l.length≤cap∧cap≤maxLen∧∀j a k,l[j]?=some (a,k)→∃g off,p=some ⟨g,off,none⟩∧g∉X∧g<w.heap.size∧w.cell? ⟨g,off+j*2,none⟩=some (.int .i64 a)∧w.cell? ⟨g,off+j*2+1,none⟩=some (.int .i64 k)
section
variable {X Y S:List Nat} {w w':World} {v:Value} {l:List Ob}
theorem j5.nil (X:List Nat) (w:World):j5 X w (.slice none 0 0) []:=⟨none,0,rfl,aI _,aO _,fun j a k hj=>by simp at hj⟩
theorem j5.keep (h:j5 X w v l) (k:Keep S w w') (hs: ∀s∈S,s∈X∨w.heap.size≤s):j5 X w' v l:=by
 obtain⟨p,cap,h1,h2,h3,h4⟩:=h
 refine⟨p,cap,h1,h2,h3,fun j a b hj=> ?_⟩
 obtain⟨g,off,e1,e2,e3,e4,e5⟩:=h4 j a b hj
 have hn:g∉S:=fun q=>by
  rcases hs g q with r|r
  ·exact e2 r
  ·omega
 exact⟨g,off,e1,e2,aF e3 k.size,(k.cell e3 hn).trans e4,(k.cell e3 hn).trans e5⟩
theorem j5.below (h:j5 X w v l) (k:Below w.heap.size w w'):j5 X w' v l:=h.keep (Keep.of (S:=[]) k) (fun _ q=>by cases q)
theorem j5.more (h:j5 X w v l) (hY: ∀y∈Y,y∈X∨w.heap.size≤y):j5 Y w v l:=by
 obtain⟨p,cap,h1,h2,h3,h4⟩:=h
 refine⟨p,cap,h1,h2,h3,fun j a b hj=> ?_⟩
 obtain⟨g,off,e1,e2,e3,e4,e5⟩:=h4 j a b hj
 exact⟨g,off,e1,fun q=>by
  rcases hY g q with r|r
  ·exact e2 r
  ·omega,e3,e4,e5⟩
theorem j5.cut (h:j5 X w v l) (n:Nat) (hn:n≤l.length): ∃p cap,v= .slice p l.length cap∧j5 X w (.slice p n cap) (l.take n):=by
 obtain⟨p,cap,h1,h2,h3,h4⟩:=h
 have e:(l.take n).length=n:=by rw[aQ];omega
 refine⟨p,cap,h1,p,cap,by rw[e],om,h3,fun j a b hj=> ?_⟩
 rw[eY] at hj
 split at hj
 ·exact h4 j a b hj
 ·cases hj
theorem j5.isSlice (h:j5 X w v l): ∃p cap,v= .slice p l.length cap∧l.length≤cap∧cap≤maxLen:=by
 obtain⟨p,cap,h1,h2,h3,_⟩:=h
 exact⟨p,cap,h1,h2,h3⟩
theorem j5.at {p:Option Addr} {n cap:Nat} (h:j5 X w (.slice p n cap) l) {j:Nat} {o:Ob} (hj:l[j]?=some o): ∃g off,p=some ⟨g,off,none⟩∧g∉X∧g<w.heap.size∧w.cell? ⟨g,off+j*2,none⟩=some (.int .i64 o.1)∧w.cell? ⟨g,off+j*2+1,none⟩=some (.int .i64 o.2):=by
 obtain⟨p',cap',h1,h2,h3,h4⟩:=h
 injection h1 with h1 _ _
 subst h1
 exact h4 j o.1 o.2 hj
theorem nG {base:Nat} (h:w.ownsRow base 49 2 v l.length (jc l)) (hX: ∀g,v.ownBlock=some g→g∉X):j5 X w v l:=by
 have ho:=h
 obtain⟨_,h2⟩:=h
 rcases h2 with⟨rfl,h3⟩|⟨g,cap,cur,rfl,hg,hh,hcap,hmax,_⟩
 ·have:l=[]:=by
   cases l with
   |nil=>rfl
   |cons b r=>simp at h3
  subst this
  exact j5.nil X w
 ·refine⟨some ⟨g,0,none⟩,cap,rfl,hcap,hmax,fun j a k hj=>⟨g,0,rfl,hX g rfl,(ho.lt g rfl).2,?_⟩⟩
  have hlt:j<l.length:=(aj.1 hj).1
  obtain⟨e1,e2⟩:=oh l j a k hj
  rw[bO,ho.cellAt (j*2) om,ho.cellAt (j*2+1) om]
  exact⟨e1,e2⟩
end
abbrev HV:=List (Value×Value)
def iX (V:HV):List Value:=V.flatMap fun p=>[p.1,p.2]
theorem jX: ∀{V:HV} {j:Nat} {p:Value×Value},V[j]?=some p→(iX V)[j*2]?=some p.1∧(iX V)[j*2+1]?=some p.2
 |[],j,p,h=>by simp at h
 |a::V,0,p,h=>by simp at h;subst h;simp[iX]
 |a::V,j+1,p,h=>by
  have ih:=jX (V:=V) (j:=j) (p:=p) (by simpa using h)
  have e:iX (a::V)=a.1::a.2::iX V:=by simp[iX]
  rw[e,show(j+1)*2=j*2+1+1 from om]
  simpa using ih
theorem iR (V:HV):(iX V).length=V.length*2:=by
 induction V with
 |nil=>rfl
 |cons a V ih=>simp[iX] at ih ⊢;omega
theorem rG: ∀{V:HV} {j:Nat} (p:Value×Value),j<V.length→iX (V.set j p)=((iX V).set (j*2) p.1).set (j*2+1) p.2
 |[],j,p,h=>by simp at h
 |a::V,0,p,h=>by simp[iX]
 |a::V,j+1,p,h=>by
  have ih:=rG (V:=V) (j:=j) p (by simpa using h)
  have e: ∀U:HV,iX (a::U)=a.1::a.2::iX U:=fun U=>by simp[iX]
  rw[gF,e,e,show(j+1)*2=j*2+1+1 from om,ih]
  simp
theorem G8:El 91 79 (.slice none 0 0) 24:=⟨Tryz.underlying91,kR,rfl,om⟩
def day (pd gh:Nat) (vp:Value):List Nat:=pd::gh::iF vp
def xd (pc:Nat) (v:Value) (A:SA) (L:List Nd) (pd gh:Nat) (vp:Value):List Nat:=day pd gh vp++(cay pc v A++ys L)
structure DepB (X:List Nat) (B:Nat) (w:World) (pd pc gh:Nat) (V:HV) (vp:Value) (U:List Value) (H:List Hd) (P:List (List Ob)):Prop where
 d:iy w pd [.pointer (some ⟨pc,0,none⟩),.slice (some ⟨gh,0,none⟩) H.length H.length,vp]
 hs:iy w gh (iX V)
 hl:V.length=H.length
 ho: ∀(i:Nat) (p:Value×Value) (h:Hd),V[i]?=some p→H[i]?=some h→j5 X w p.1 h.1∧j5 X w p.2 h.2
 row:w.ownsRow B 79 1 vp P.length U
 ul:U.length=P.length
 po: ∀(i:Nat) (u:Value) (m:List Ob),U[i]?=some u→P[i]?=some m→j5 X w u m
 mem: ∀y∈day pd gh vp,y∈X
 nd:(day pd gh vp).Nodup
 lim: ∀y∈day pd gh vp,B≤y∧y<w.heap.size
structure CD (B:Nat) (w:World) (X:List Nat) (pd pc pz gh:Nat) (mn lw hi:Int) (O:List (List Int)) (e:Nat) (v:Value) (A:SA) (V:HV) (vp:Value) (U:List Value) (d:De):Prop where
 x: ∀y∈xd pc v A d.c.L pd gh vp,y∈X
 lim: ∀y∈X,B≤y∧y<w.heap.size
 cs:CS B w pc pz mn lw hi O e X v A d.c
 de:DepB X B w pd pc gh V vp U d.H d.P
 ne: ∀y∈day pd gh vp,y∉cay pc v A∧y∉ys d.c.L
def CDx (B:Nat) (w:World) (X F:List Nat) (pd pc pz gh:Nat) (mn lw hi:Int) (O:List (List Int)) (e:Nat) (d:De):Prop:=∃v A V vp U,CD B w X pd pc pz gh mn lw hi O e v A V vp U d∧∀f∈F,f∈X∧f∉xd pc v A d.c.L pd gh vp
section
variable {X Y S F:List Nat} {B:Nat} {w w':World} {pd pc pz gh e:Nat} {mn lw hi:Int} {O:List (List Int)} {v v' vp vp':Value} {A A':SA} {V V':HV} {U U':List Value} {d d':De} {H:List Hd} {P:List (List Ob)} {c c':Ca}
theorem CS.sub (h:CS B w pc pz mn lw hi O e X v A c) (hY: ∀y∈Y,y∈X) (h1: ∀y∈cay pc v A,y∈Y) (h2: ∀y∈ys c.L,y∈Y):CS B w pc pz mn lw hi O e Y v A c:=by
 obtain⟨qn,kn,qo,ko,z1,z2,z3⟩:=h.z.z
 exact⟨⟨⟨qn,kn,qo,ko,z1,z2.sub hY,z3.sub hY⟩,h.z.b,h2,fun q=>h.z.out (hY _ q),fun x hx q=>h.z.outb x hx (hY _ q),h.z.ord,h.z.m0⟩,⟨h.ch.c,h.ch.row,h.ch.len,h.ch.sl,h1,h.ch.nd,h.ch.lim⟩,h.ne,h.l0⟩
theorem DepB.keep (h:DepB X B w pd pc gh V vp U H P) (k:Keep S w w') (hs: ∀s∈S,s∉day pd gh vp∧(s∈X∨w.heap.size≤s)):DepB X B w' pd pc gh V vp U H P:=
 ⟨h.d.keep k fun q=>(hs _ q).1 (aD ..),h.hs.keep k fun q=>(hs _ q).1 (ak _ (aD ..)),h.hl,
  fun i p g hp hg=>⟨(h.ho i p g hp hg).1.keep k fun s q=>(hs s q).2,(h.ho i p g hp hg).2.keep k fun s q=>(hs s q).2⟩,
  iE h.row k fun s q r=>(hs s q).1 (ak _ (ak _ r)),h.ul,fun i u m hu hm=>(h.po i u m hu hm).keep k fun s q=>(hs s q).2,h.mem,h.nd,
  fun y hy=>⟨(h.lim y hy).1,aF (h.lim y hy).2 k.size⟩⟩
theorem DepB.more (h:DepB X B w pd pc gh V vp U H P) (hY: ∀y∈Y,y∈X∨w.heap.size≤y) (hm: ∀y∈day pd gh vp,y∈Y):DepB Y B w pd pc gh V vp U H P:=
 ⟨h.d,h.hs,h.hl,fun i p g hp hg=>⟨(h.ho i p g hp hg).1.more hY,(h.ho i p g hp hg).2.more hY⟩,h.row,h.ul,fun i u m hu hm'=>(h.po i u m hu hm').more hY,hm,h.nd,h.lim⟩
theorem CD.limK (h:CD B w X pd pc pz gh mn lw hi O e v A V vp U d) (k:Keep S w w'): ∀y∈X,B≤y∧y<w'.heap.size:=fun y hy=>⟨(h.lim y hy).1,aF (h.lim y hy).2 k.size⟩
theorem CD.below (h:CD B w X pd pc pz gh mn lw hi O e v A V vp U d) (k:Below w.heap.size w w'):CD B w' X pd pc pz gh mn lw hi O e v A V vp U d:=
 ⟨h.x,h.limK (Keep.of (S:=[]) k),h.cs.below k,h.de.keep (Keep.of (S:=[]) k) (fun _ q=>by cases q),h.ne⟩
def off (X F:List Nat):List Nat:=X.filter fun x=> !F.contains x
theorem iQ {s:Nat}:s∈off X F↔s∈X∧s∉F:=by unfold off;simp
theorem CD.offd (h:CD B w X pd pc pz gh mn lw hi O e v A V vp U d) (hF: ∀f∈F,f∈X∧f∉xd pc v A d.c.L pd gh vp) {s:Nat} (hs:s∈xd pc v A d.c.L pd gh vp):s∈off X F:=iQ.2 ⟨h.x s hs,fun q=>(hF s q).2 hs⟩
theorem CD.G9 (h:CD B w X pd pc pz gh mn lw hi O e v A V vp U d) (hF: ∀f∈F,f∈X∧f∉xd pc v A d.c.L pd gh vp) {s:Nat} (hs:s∈day pd gh vp):s∈off X F:=h.offd hF (av _ hs)
theorem CDx.lim (h:CDx B w X F pd pc pz gh mn lw hi O e d): ∀x∈X,B≤x∧x<w.heap.size:=by
 obtain⟨v,A,V,vp,U,h,_⟩:=h
 exact h.lim
theorem CDx.below (h:CDx B w X F pd pc pz gh mn lw hi O e d) (k:Below w.heap.size w w'):CDx B w' X F pd pc pz gh mn lw hi O e d:=by
 obtain⟨v,A,V,vp,U,h,hf⟩:=h
 exact⟨v,A,V,vp,U,h.below k,hf⟩
theorem CD.other (h:CD B w X pd pc pz gh mn lw hi O e v A V vp U d) (k:Keep S w w') (hs: ∀s∈S,(s∈X∨w.heap.size≤s)∧s∉xd pc v A d.c.L pd gh vp):CD B w' X pd pc pz gh mn lw hi O e v A V vp U d:=by
 have f1: ∀s∈S,s∉day pd gh vp:=fun s q r=>(hs s q).2 (av _ r)
 have f2: ∀s∈S,s∉cay pc v A:=fun s q r=>(hs s q).2 (aA _ (av _ r))
 have f3: ∀s∈S,s∉ys d.c.L:=fun s q r=>(hs s q).2 (aA _ (aA _ r))
 exact⟨h.x,h.limK k,h.cs.keep k (fun s q=>⟨f2 s q,(hs s q).1.imp (fun r=>⟨r,f3 s q⟩) id⟩),h.de.keep k (fun s q=>⟨f1 s q,(hs s q).1⟩),h.ne⟩
theorem CD.cache (h:CD B w X pd pc pz gh mn lw hi O e v A V vp U d) (hc:CS B w' pc pz mn lw hi O e Y v' A' c') (k:Keep (cay pc v A++ys d.c.L) w w') (hY: ∀x∈X,x∈Y) (hY2: ∀x∈Y,x∈X∨w.heap.size≤x) (hv: ∀y∈cay pc v' A',y∈cay pc v A∨w.heap.size≤y) (hs:l6 d.c.L c'.L):
 CD B w' (X++xd pc v' A' c'.L pd gh vp) pd pc pz gh mn lw hi O e v' A' V vp U ⟨c',d.H,d.P⟩∧(∀x∈X++xd pc v' A' c'.L pd gh vp,x∈X∨w.heap.size≤x):=by
 have ey:ys c'.L=ys d.c.L:=hs.ys
 have hd: ∀y∈day pd gh vp,y∈X:=h.de.mem
 have new: ∀x∈X++xd pc v' A' c'.L pd gh vp,x∈X∨w.heap.size≤x:=fun x hx=>by
  rcases aG.1 hx with q|q
  ·exact .inl q
  ·rcases aG.1 q with q|q
   ·exact .inl (hd x q)
   ·rcases aG.1 q with q|q
    ·rcases hv x q with r|r
     ·exact .inl (h.cs.ch.mem x r)
     ·exact .inr r
    ·rw[ey] at q
     exact .inl (h.cs.z.mem x q)
 have inY: ∀x∈X++xd pc v' A' c'.L pd gh vp,x∈Y:=fun x hx=>by
  rcases aG.1 hx with q|q
  ·exact hY x q
  ·rcases aG.1 q with q|q
   ·exact hY x (hd x q)
   ·rcases aG.1 q with q|q
    ·exact hc.ch.mem x q
    ·exact hc.z.mem x q
 have m1:=h.de.more (Y:=X++xd pc v' A' c'.L pd gh vp) new (fun y q=>av _ (hd y q))
 have m2:=m1.keep k (fun s q=>by
  rcases aG.1 q with r|r
  ·exact⟨fun t=>(h.ne s t).1 r,.inl (av _ (h.cs.ch.mem s r))⟩
  ·exact⟨fun t=>(h.ne s t).2 r,.inl (av _ (h.cs.z.mem s r))⟩)
 refine⟨⟨fun y hy=>aA _ hy,fun y hy=> ?_,hc.sub inY (fun y hy=>aA _ (aA _ (av _ hy))) (fun y hy=>aA _ (aA _ (aA _ hy))),m2,fun y hy=>⟨fun q=> ?_,fun q=> ?_⟩⟩,new⟩
 ·rcases aG.1 hy with q|q
  ·exact h.limK k y q
  ·rcases aG.1 q with q|q
   ·exact h.limK k y (hd y q)
   ·rcases aG.1 q with q|q
    ·exact hc.ch.lim y q
    ·exact hc.z.b.lim y q
 ·rcases hv y q with r|r
  ·exact(h.ne y hy).1 r
  ·have:=(h.de.lim y hy).2;omega
 ·rw[ey] at q
  exact(h.ne y hy).2 q
theorem CD.cacheF (h:CD B w X pd pc pz gh mn lw hi O e v A V vp U d) (hv: ∀y∈cay pc v' A',y∈cay pc v A∨w.heap.size≤y) (hs:l6 d.c.L c'.L) (hF: ∀f∈F,f∈X∧f∉xd pc v A d.c.L pd gh vp) (hX: ∀x∈X,x∈Y):
 ∀f∈F,f∈Y∧f∉xd pc v' A' c'.L pd gh vp:=fun f hf=>by
 obtain⟨a1,a2⟩:=hF f hf
 refine⟨hX f a1,fun q=> ?_⟩
 rcases aG.1 q with r|r
 ·exact a2 (av _ r)
 ·rcases aG.1 r with r|r
  ·rcases hv f r with t|t
   ·exact a2 (aA _ (av _ t))
   ·have:=(h.lim f a1).2;omega
  ·rw[hs.ys] at r
   exact a2 (aA _ (aA _ r))
theorem CD.pushF (h:CD B w X pd pc pz gh mn lw hi O e v A V vp U d) (hv: ∀y∈iF vp',y∈iF vp∨w.heap.size≤y) (hF: ∀f∈F,f∈X∧f∉xd pc v A d.c.L pd gh vp) (hX: ∀x∈X,x∈Y):
 ∀f∈F,f∈Y∧f∉xd pc v A d.c.L pd gh vp':=fun f hf=>by
 obtain⟨a1,a2⟩:=hF f hf
 refine⟨hX f a1,fun q=> ?_⟩
 rcases aG.1 q with r|r
 ·rcases aC.1 r with rfl|r
  ·exact a2 (av _ (aD ..))
  ·rcases aC.1 r with rfl|r
   ·exact a2 (av _ (ak _ (aD ..)))
   ·rcases hv f r with t|t
    ·exact a2 (av _ (ak _ (ak _ t)))
    ·have:=(h.lim f a1).2;omega
 ·exact a2 (aA _ r)
end
end
section
open Go.RowKit Go.Maps
section
variable {X Y S:List Nat} {B:Nat} {ev:Nat→Addr} {w w':World} {pd pc pz gh e:Nat} {mn lw hi:Int} {O:List (List Int)} {v vp:Value} {A:SA} {V:HV} {U:List Value} {d:De} {c:Ca}
def vW:Value×Value:=(.slice none 0 0,.slice none 0 0)
theorem Ga (pc:Nat) (n:Nat) (w:World) (n1:1≤n) (n4:n≤4):
 Calls Tryz.prog 35 #[.pointer (some ⟨pc,0,none⟩),.int .i64 n] w fun r w'=>r= .returned (.tuple #[.pointer (some ⟨w.heap.size+1,0,none⟩),.nilIface])∧w'=(w.alloc (.cells (iX (List.replicate n vW)).toArray 249)).alloc (.cells #[.pointer (some ⟨pc,0,none⟩),.slice (some ⟨w.heap.size,0,none⟩) n n,.slice none 0 0] 244):=by
 have h:n=1∨n=2∨n=3∨n=4:=om
 have em:madeCells (Value.agg #[.slice none 0 0,.slice none 0 0]).cells (n*2)=(iX (List.replicate n vW)).toArray:=by rcases h with rfl|rfl|rfl|rfl<;>kernel_rfl
 have MK: ∀W:World,(Instr.makeSlice 242 (.int .i64 (n:Nat)) (.int .i64 (n:Nat))).run Tryz.prog W= .ok (.slice (some ⟨W.heap.size,0,none⟩) n n) (W.alloc (.cells (iX (List.replicate n vW)).toArray 249)):=fun W=>by
  obtain⟨i0,hi0,hz0,hzs,hzb⟩:=info_parts (P:=Tryz.prog) (e:=249) (z:=.agg #[.slice none 0 0,.slice none 0 0]) (size:=2) (bytes:=48) kR
  have:=run_make (P:=Tryz.prog) W 242 249 i0 _ Tryz.underlying242 hi0 hz0 .i64 .i64 (n:Nat) (n:Nat) om (bZ _) (by rw[hzb];omega) om
  rw[this,hzs,←em]
  simp only[bJ]
 rcases h with rfl|rfl|rfl|rfl
 ·have MK':(Instr.makeSlice 242 (.int .i64 1) (.int .i64 1)).run Tryz.prog w= .ok (.slice (some ⟨w.heap.size,0,none⟩) 1 1) (w.alloc (.cells (iX (List.replicate 1 vW)).toArray 249)):=MK w
  clear MK em
  go_enter fV,fK
  go_wp2
  go_ret2
  exact⟨rfl,rfl⟩
 ·have MK':(Instr.makeSlice 242 (.int .i64 2) (.int .i64 2)).run Tryz.prog w= .ok (.slice (some ⟨w.heap.size,0,none⟩) 2 2) (w.alloc (.cells (iX (List.replicate 2 vW)).toArray 249)):=MK w
  clear MK em
  go_enter fV,fK
  go_wp2
  go_ret2
  exact⟨rfl,rfl⟩
 ·have MK':(Instr.makeSlice 242 (.int .i64 3) (.int .i64 3)).run Tryz.prog w= .ok (.slice (some ⟨w.heap.size,0,none⟩) 3 3) (w.alloc (.cells (iX (List.replicate 3 vW)).toArray 249)):=MK w
  clear MK em
  go_enter fV,fK
  go_wp2
  go_ret2
  exact⟨rfl,rfl⟩
 ·have MK':(Instr.makeSlice 242 (.int .i64 4) (.int .i64 4)).run Tryz.prog w= .ok (.slice (some ⟨w.heap.size,0,none⟩) 4 4) (w.alloc (.cells (iX (List.replicate 4 vW)).toArray 249)):=MK w
  clear MK em
  go_enter fV,fK
  go_wp2
  go_ret2
  exact⟨rfl,rfl⟩
theorem dnew_err (pc:Nat) (n:Int) (w:World) (hE:qh B ev w) (hn:n<1∨4<n):
 Calls Tryz.prog 35 #[.pointer (some ⟨pc,0,none⟩),.int .i64 n] w fun r w'=>r= .returned (.tuple #[.pointer none,jB ev 2])∧Below w.heap.size w w':=by
 have r2:=hE.c2
 have e1:jB ev 2= .iface 434 (.pointer (some (ev 2))):=rfl
 have l2:=aF hE.l2 hE.size
 rw[e1] at r2 ⊢
 clear hE
 by_cases h1:n<1
 ·have d1:decide (n<1)=true:=decide_eq_true h1
  go_enter fV,fK
  go_wp2_with fail
  go_quiet (fail)
  go_wp2
  go_ret2
  exact⟨rfl,iB⟩
 ·have d1:decide (n<1)=false:=decide_eq_false h1
  have d2:decide (4<n)=true:=decide_eq_true om
  go_enter fV,fK
  go_wp2_with fail
  go_quiet (fail)
  go_wp2
  go_ret2
  exact⟨rfl,iB⟩
theorem dnew_nil (n:Int) (w:World) (hE:qh B ev w):
 Calls Tryz.prog 35 #[.pointer none,.int .i64 n] w fun r w'=>r= .returned (.tuple #[.pointer none,jB ev 3])∧Below w.heap.size w w':=by
 have r2:=hE.c3
 have e1:jB ev 3= .iface 434 (.pointer (some (ev 3))):=rfl
 have l2:=aF hE.l3 hE.size
 rw[e1] at r2 ⊢
 clear hE
 go_enter fV,fK
 go_wp2_with fail
 go_quiet (fail)
 go_wp2
 go_ret2
 exact⟨rfl,iB⟩
theorem lW (h:CD B w X pd pc pz gh mn lw hi O e v A V vp U d) (k:Nat) (hk:k<d.H.length):
 Calls Tryz.prog 146 #[.pointer (some ⟨pd,0,none⟩),.int .i64 k] w fun r w'=>r= .returned (.tuple #[.pointer (some ⟨gh,k*2,none⟩),.nilIface])∧w'=w:=by
 have c0:=h.de.d.c 0 _ rfl;have c1:=h.de.d.c 1 _ rfl;have cl:=h.de.d.lt
 obtain⟨n,hn⟩: ∃n,n=d.H.length:=⟨_,rfl⟩
 rw[←hn] at c1 hk
 have h0:decide ((k:Int)<0)=false:=decide_eq_false om
 have h1:decide ((n:Int)≤k)=false:=decide_eq_false om
 have h2:(k:Int)<n:=om
 clear h hn
 go_enter Tryz.func146,Tryz.ntmps146
 go_wp2
 go_ret2
 exact⟨rfl,rfl⟩
theorem vG (hE:qh B ev w) (h:CD B w X pd pc pz gh mn lw hi O e v A V vp U d) (k:Int) (hk:k<0∨(d.H.length:Int)≤k):
 Calls Tryz.prog 146 #[.pointer (some ⟨pd,0,none⟩),.int .i64 k] w fun r w'=>r= .returned (.tuple #[.pointer none,jB ev 2])∧Below w.heap.size w w':=by
 have c0:=h.de.d.c 0 _ rfl;have c1:=h.de.d.c 1 _ rfl;have cl:=h.de.d.lt
 obtain⟨n,hn⟩: ∃n,n=d.H.length:=⟨_,rfl⟩
 rw[←hn] at c1 hk
 have r2:=hE.c2
 have e1:jB ev 2= .iface 434 (.pointer (some (ev 2))):=rfl
 have l2:=aF hE.l2 hE.size
 rw[e1] at r2 ⊢
 clear h hn hE
 by_cases h1:k<0
 ·have d1:decide (k<0)=true:=decide_eq_true h1
  go_enter Tryz.func146,Tryz.ntmps146
  go_wp2_with fail
  go_quiet (fail)
  go_wp2
  go_ret2
  exact⟨rfl,iB⟩
 ·have d1:decide (k<0)=false:=decide_eq_false h1
  have d2:decide ((n:Int)≤k)=true:=decide_eq_true om
  go_enter Tryz.func146,Tryz.ntmps146
  go_wp2_with fail
  go_quiet (fail)
  go_wp2
  go_ret2
  exact⟨rfl,iB⟩
theorem Ce (g o:Nat) (p p':Option Addr) (n n' k k':Nat) (a b:Value) (ha:a= .slice p n k) (hb:b= .slice p' n' k') (w:World) (h0:w.cell? ⟨g,o,none⟩=some a) (h1:w.cell? ⟨g,o+1,none⟩=some b) (f0:w.frozen? ⟨g,o,none⟩=false) (f1:w.frozen? ⟨g,o+1,none⟩=false) (hl:g<w.heap.size):
 Calls Tryz.prog 147 #[.pointer (some ⟨g,o,none⟩)] w fun r w'=>r= .returned (.tuple #[])∧w'=((w.setCell ⟨g,o,none⟩ b).setCell ⟨g,o+1,none⟩ a).drew:=by
 subst ha hb
 go_enter Tryz.func147,Tryz.ntmps147
 go_wp2_with fail
 go_region
 exact bodyPost_end (v:=.tuple #[]) (by simp[results,Tryz.results147,go_sem]) rfl ⟨rfl,rfl⟩
end
end
end Go.Proofs.YtdcbhlcbiokbeaaGreatDoor
