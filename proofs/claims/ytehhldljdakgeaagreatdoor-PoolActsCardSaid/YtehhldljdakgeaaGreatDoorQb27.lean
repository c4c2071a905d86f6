/- Lemmas. -/
import Derived.Test.YtehhldljdakgeaaGreatDoorQb01
import Derived.Test.YtehhldljdakgeaaGreatDoorQb24
set_option linter.unusedSimpArgs false
set_option linter.unusedVariables false
set_option maxHeartbeats 16000000
set_option maxRecDepth 100000
namespace Go.Proofs.YtehhldljdakgeaaGreatDoor
open Go.RowKit Go.Maps Go.Proofs.Tryz
attribute [local go_sem ↓] aJ aK
section
open Go.RowKit Go.ChangeShapes
theorem WZ (b off i:Nat):(⟨b,off,none⟩:Addr).add i=⟨b,off+i,none⟩:=by
 unfold Addr.add;split
 ·rename_i h;rw[h];rfl
 ·rfl
theorem Xa {α:Type} {H:Type} {enc:TypeId×Value→H} {W:World} {base:Nat} {spare:Nat→Bool} {held:Bool} {fuel:Nat} {v:Value} {x:DataW H×List MemPlace} {T E:TypeId} {s:Nat} {cells:α→List Value} {fits:α→Prop}
 (ht:prog.underlying T=some (.slice E)) (hs:prog.cellsOf E=s) (hs0:0<s)
 (each: ∀(n:Nat) (cs:List Value) (y:DataW H×List MemPlace),cs.length=s→DataW.trod enc prog W base spare held n E cs=some y→∃q:α,cs=cells q∧fits q)
 (h:DataW.trod enc prog W base spare held fuel T [v]=some x): ∃xs,RowG s cells fits W v xs:=by
 rcases Go.Deep.open_slice ht h with⟨hcs,_⟩|⟨a,len,cap,m,n,D,Pl,hcs,_,hl,hm,hmm,_,hel⟩
 ·have e:v= .slice none 0 0:=by simpa using hcs
  exact⟨[],none,0,e,⟨aI _,bq _⟩,fun j x hj=>by simp at hj⟩
 ·have e:v= .slice (some a) len cap:=by simpa using hcs
  have hlm:len≤m:=by rw[hmm];split<;>omega
  have key: ∀i,i<len→∃q:α,fits q∧(cells q).length=s∧∀j u,(cells q)[j]?=some u→W.cell? (a.add (i*s+j))=some u:=by
   intro i hi;obtain⟨cs',h1,h2⟩:=hel i om;rw[hs] at h1;obtain⟨_,hlen,hcell⟩:=World.cells?_some h1;obtain⟨q,rfl,hq⟩:=each _ _ _ hlen h2;refine⟨q,hq,hlen,fun j u hj=> ?_⟩;have hjl:=(au.1 hj).1;have:=hcell j om;rw[Go.Deep.add_add] at this;rw[this,hj]
  cases len with
  |zero=>exact⟨[],some a,cap,e,⟨bq _,hm⟩,fun j x hj=>by simp at hj⟩
  |succ len=>
   have:Nonempty α:=⟨(key 0 om).choose⟩;have ch: ∃q:Nat→α,∀i,i<len+1→fits (q i)∧(cells (q i)).length=s∧∀j u,(cells (q i))[j]?=some u→W.cell? (a.add (i*s+j))=some u:=by
    refine⟨fun i=>if hi:i<len+1 then(key i hi).choose else Classical.choice this,fun i hi=> ?_⟩;simp only[dif_pos hi];exact(key i hi).choose_spec
   obtain⟨q,hq⟩:=ch;obtain⟨b,off,spot⟩:=a;obtain⟨_,c0,c1⟩:=hq 0 om;have h00:=c1 0 _ (aA om);have hspot:spot=none:=by simpa[Addr.add] using World.cell?_spot h00
   subst hspot;refine⟨(List.range (len+1)).map q,some ⟨b,off,none⟩,cap,by simp[e],⟨by simpa using hl,hm⟩,fun j x hj=> ?_⟩;have hjl:j<len+1:=by
    have:=(au.1 hj).1;simpa using this
   rw[gq,List.getElem?_range hjl] at hj;simp at hj;subst hj;obtain⟨f1,f2,f3⟩:=hq j hjl;refine⟨f1,b,off,rfl,?_,fun i u hi=> ?_⟩
   ·rw[WZ] at h00
    rcases dU b W.heap.size with r|r
    ·exact r
    ·simp[World.cell?,eO r] at h00
   ·have:=f3 i u hi
    rwa [WZ,←Nat.add_assoc] at this
theorem RowG.form {α:Type} {s:Nat} {cells:α→List Value} {fits:α→Prop} {w:World} {v:Value} {xs:List α} (h:RowG s cells fits w v xs) (h0:0<xs.length):
 ∃g off cap,v= .slice (some ⟨g,off,none⟩) xs.length cap∧(xs.length≤cap∧cap≤maxLen)∧g<w.heap.size∧∀j x,xs[j]?=some x→fits x∧∀i u,(cells x)[i]?=some u→w.cell? ⟨g,off+j*s+i,none⟩=some u:=by
 obtain⟨p,cap,rfl,hcap,h2⟩:=h;obtain⟨_,g,off,rfl,hg,_⟩:=h2 0 _ (aA h0);refine⟨g,off,cap,rfl,hcap,hg,fun j x hj=> ?_⟩;obtain⟨f,g',off',e,_,q⟩:=h2 j x hj;injection e with e;injection e with ea eb;subst ea eb;exact⟨f,q⟩
end
section
open Go.RowKit Go.ChangeShapes
end
theorem Co (w:World) (u0 u1 u2:Value) (t:TypeId): ∀j u,[u0,u1,u2][j]?=some u→(w.alloc (.cells #[u0,u1,u2] t)).cell? ((⟨w.heap.size,0,none⟩:Addr).add j)=some u:=by
 intro j u hu;match j,hu with
 |0,hu=>simp at hu;subst hu;simp[Addr.add]
 |1,hu=>simp at hu;subst hu;simp[Addr.add]
 |2,hu=>simp at hu;subst hu;simp[Addr.add]
section
variable {B:Nat} {ev:Nat→Addr} {pc pz e:Nat} {mn lw hi:Int} {O:List (List Int)} {X:List Nat} {vs:Value} {A:SA} {c:Ca} {w:World}
end
section
variable {σ τ:Type} {w0 w1:World}
variable {E:FEnv σ w0} {D:FEnv τ w1} {w W W':World} {L X F Y G:List Nat} {d d':σ} {m m':τ} {b:Nat} {r:Value} {en:Ending}
theorem Duo.go (h:Duo E D w L X F Y G d m W) (k:Below W.heap.size W W'):Duo E D w L X F Y G d m W':=
 ⟨E.go h.s k,D.go h.t k,h.a,h.b,h.l1,fun b q=>⟨(h.l2 b q).1,aC (h.l2 b q).2 k.size⟩,h.bel.trans (k.mono h.bel.size),h.lo⟩
theorem lT.go (h:lT E D w L d m W) (k:Below W.heap.size W W'):lT E D w L d m W':=by
 obtain⟨X,F,Y,G,q⟩:=h;exact⟨X,F,Y,G,q.go k⟩
theorem lT.bel (h:lT E D w L d m W):Below w.heap.size w W:=by
 obtain⟨X,F,Y,G,q⟩:=h;exact q.bel
theorem lT.put {S N:List Nat} (h:lT E D w L d m W) (k:Keep S W W') (hS: ∀s∈S,s∈L) (hN: ∀y∈N,W.heap.size≤y∧y<W'.heap.size):lT E D w (N++L) d m W':=by
 obtain⟨X,F,Y,G,q⟩:=h;have z:=q.bel.size;refine⟨N++X,N++F,N++Y,N++G,E.uS q.s k (fun s t=>(q.l1 s (hS s t)).1) hN,D.uS q.t k (fun s t=>(q.l1 s (hS s t)).2) hN,fun x t=> ?_,fun x t=> ?_,fun b t=> ?_,fun b t=> ?_,q.bel.trans (k.below z fun s t=>(q.l2 s (hS s t)).1),q.lo⟩
 ·obtain⟨t1,t2⟩:=jW.1 t
  rcases aD.1 t1 with u|u
  ·exact absurd (av _ u) t2
  ·exact aj _ (q.a x (jW.2 ⟨u,fun v=>t2 (aj _ v)⟩))
 ·obtain⟨t1,t2⟩:=jW.1 t
  rcases aD.1 t1 with u|u
  ·exact absurd (av _ u) t2
  ·exact aj _ (q.b x (jW.2 ⟨u,fun v=>t2 (aj _ v)⟩))
 ·rcases aD.1 t with u|u
  ·exact⟨av _ u,av _ u⟩
  ·exact⟨aj _ (q.l1 b u).1,aj _ (q.l1 b u).2⟩
 ·rcases aD.1 t with u|u
  ·have:=hN b u;exact⟨om,this.2⟩
  ·exact⟨(q.l2 b u).1,aC (q.l2 b u).2 k.size⟩
theorem lT.box (h:lT E D w L d m W) (o:Obj):lT E D w (W.heap.size::L) d m (W.alloc o):=
 h.put (N:=[W.heap.size]) (S:=[]) (Keep.of ((aL _ _).alloc (aI _) o)) (fun s q=>by cases q) (fun y q=>by simp at q;subst q;simp)
theorem lT.less {L':List Nat} (h:lT E D w L d m W) (hs: ∀b∈L',b∈L):lT E D w L' d m W:=by
 obtain⟨X,F,Y,G,q⟩:=h;exact⟨X,F,Y,G,q.s,q.t,q.a,q.b,fun b t=>q.l1 b (hs b t),fun b t=>q.l2 b (hs b t),q.bel,q.lo⟩
theorem Duo.act1 (h:Duo E D w L X F Y G d m W) (hp:EPost E.S X F d' W r en W'):en= .returned r∧lT E D w L d' m W'∧Keep (off X F) W W'∧∀b∈L,b∉off X F:=by
 obtain⟨he,X',k1,k2,k3,k4⟩:=hp;have z:=h.bel.size;have hN: ∀y∈X'.filter (fun y=>decide (W.heap.size≤y)),W.heap.size≤y∧y<W'.heap.size:=fun y q=>by
  obtain⟨q1,q2⟩:=bG.1 q;exact⟨of_decide_eq_true q2,(E.lim k1 y q1).2⟩
 refine⟨he,⟨X',F,_,_,k1,D.uS h.t k2 (fun s q=>h.a s q) hN,fun x q=> ?_,fun x q=> ?_,fun b q=>⟨(h.l1 b q).1,aj _ (h.l1 b q).2⟩,fun b q=>⟨(h.l2 b q).1,aC (h.l2 b q).2 k2.size⟩,h.bel.trans (k2.below z fun s q=> ?_),h.lo⟩,k2,fun b q t=>(jW.1 t).2 (h.l1 b q).1⟩
 ·obtain⟨q1,q2⟩:=jW.1 q
  rcases k3 x q1 with t|t
  ·exact aj _ (h.a x (jW.2 ⟨t,q2⟩))
  ·exact av _ (bG.2 ⟨q1,dQt t⟩)
 ·obtain⟨q1,q2⟩:=jW.1 q
  rcases aD.1 q1 with u|u
  ·exact absurd (av _ u) q2
  ·exact h.b x (jW.2 ⟨u,fun v=>q2 (aj _ v)⟩)
 ·have:=(E.lim h.s s (jW.1 q).1).1;have:=h.lo.1;omega
theorem Duo.act2 (h:Duo E D w L X F Y G d m W) (hp:EPost D.S Y G m' W r en W'):en= .returned r∧lT E D w L d m' W'∧Keep (off Y G) W W'∧∀b∈L,b∉off Y G:=by
 obtain⟨he,Y',k1,k2,k3,k4⟩:=hp;have z:=h.bel.size;have hN: ∀y∈Y'.filter (fun y=>decide (W.heap.size≤y)),W.heap.size≤y∧y<W'.heap.size:=fun y q=>by
  obtain⟨q1,q2⟩:=bG.1 q;exact⟨of_decide_eq_true q2,(D.lim k1 y q1).2⟩
 refine⟨he,⟨_,_,Y',G,E.uS h.s k2 (fun s q=>h.b s q) hN,k1,fun x q=> ?_,fun x q=> ?_,fun b q=>⟨aj _ (h.l1 b q).1,(h.l1 b q).2⟩,fun b q=>⟨(h.l2 b q).1,aC (h.l2 b q).2 k2.size⟩,h.bel.trans (k2.below z fun s q=> ?_),h.lo⟩,k2,fun b q t=>(jW.1 t).2 (h.l1 b q).2⟩
 ·obtain⟨q1,q2⟩:=jW.1 q
  rcases aD.1 q1 with u|u
  ·exact absurd (av _ u) q2
  ·exact h.a x (jW.2 ⟨u,fun v=>q2 (aj _ v)⟩)
 ·obtain⟨q1,q2⟩:=jW.1 q
  rcases k3 x q1 with t|t
  ·exact aj _ (h.b x (jW.2 ⟨t,q2⟩))
  ·exact av _ (bG.2 ⟨q1,dQt t⟩)
 ·have:=(D.lim h.t s (jW.1 q).1).1;have:=h.lo.2;omega
end
theorem neqO (a k b m:Int) (w:World):(binOp .neq 40 (.agg #[.int .i64 a,.int .i64 k]) (.agg #[.int .i64 b,.int .i64 m])).run prog w= .ok (.bool (!(a==b&&k==m))) w:=by
 have u3:=bB;have a3:=gZ;have z3:=gK;have hS:prog.underlying 40=some (.struct (prog.fieldsOf 40)):=kR;have hp:prog.stoodInHeld 40=false:=kR;rw[run_neq_struct,show(10000:Nat)=9999+1 from rfl,run_equalIn_agg w 9999 40 _ _ hS hp];simp only[Program.fieldsOf,iK];go_simp
 by_cases h1:a=b<;>by_cases h2:k=m<;>simp[h1,h2]
theorem AQ {base:Nat} {w:World} {q:Option Addr} {k:Nat} {l:List Ob} (h:w.ownsRow base 40 2 (.slice q l.length k) l.length (l8 l)) {i:Nat} {o:Ob} (ho:l[i]?=some o):
 ∃g,q=some ⟨g,0,none⟩∧l.length≤k∧k≤maxLen∧g<w.heap.size∧base≤g∧w.cell? ⟨g,i*2,none⟩=some (.int .i64 o.1)∧w.cell? ⟨g,i*2+1,none⟩=some (.int .i64 o.2)∧uP w (some ⟨g,0,none⟩) (l8 (l.take i))∧uP w (some ⟨g,(i+1)*2,none⟩) (l8 (l.drop (i+1))):=by
 obtain⟨g,e,h1,h2,h3,h4,h5⟩:=JU h ho;subst e;have il:=(au.1 ho).1;refine⟨g,rfl,h1,h2,h3,(h.lt g rfl).1,h4,h5,.inr ⟨_,rfl,fun j u hj=> ?_⟩,.inr ⟨_,rfl,fun j u hj=> ?_⟩⟩
 ·have e:l8 l=l8 (l.take i)++l8 (l.drop i):=by rw[←qD,bX]
  have jl:=(au.1 hj).1;rw[addr_add,bK,h.cellAt j (by rw[lU,bD] at jl;omega),e,bJ jl];exact hj
 ·have e:l8 l=l8 (l.take (i+1))++l8 (l.drop (i+1)):=by rw[←qD,bX]
  have jl:=(au.1 hj).1;have tl:(l8 (l.take (i+1))).length=(i+1)*2:=by rw[lU,bD];omega
  rw[addr_add,h.cellAt ((i+1)*2+j) (by rw[lU,bY] at jl;omega),e,bP om,tl,Nat.add_sub_cancel_left];exact hj
section
variable {X Y S F:List Nat} {B:Nat} {ev:Nat→Addr} {w w' w0:World} {pd pc pz gh e:Nat} {mn lw hi:Int} {O:List (List Int)} {v vp:Value} {A:SA} {d d':De} {c:Ca}
end
section
variable {X Y S M M' F G:List Nat} {w w' w0:World} {ev:Nat→Addr} {pd pc pz gh pdm ghm pcm pm gN e:Nat} {mn lw hi:Int} {O:List (List Int)} {v v' vp vp':Value} {A A':SA} {V V':HV} {U U':List Value} {d d' m:De}
theorem TR (k:Int) (o:Ob):(lI e d k o).2≤10:=by
 unfold lI;split
 ·simp
 ·split<;>simp
end
section
variable {P:Program} {k t e:TypeId} {w w':World} {b:Nat} {L L':List (Lit×Value)} {S:List Nat}
theorem qO.len (h:qO P k w b L) (ht:P.underlying t=some (.map k e)) (ty:TypeId):(Builtin.len_ #[t] ty #[.map (some b)]).run P w= .ok (.int .i64 L.length) w:=by
 obtain⟨D,h1,h2,h3,h4⟩:=h.own;rw[h1.len ht ty,h4]
end
theorem mZ {pq:Nat} {vr vt vw vg:Value}:(Ac pq vr vt vw vg).Nodup↔(pq∉jS vr∧pq∉jS vt∧pq∉jS vw∧pq∉jS vg)∧(∀y∈jS vr,y∉jS vt∧y∉jS vw∧y∉jS vg)∧(∀y∈jS vt,y∉jS vw∧y∉jS vg)∧∀y∈jS vw,y∉jS vg:=by
 have n: ∀v:Value,(jS v).Nodup:=fun v=>by unfold jS;cases v.ownBlock<;>simp
 unfold Ac;rw[aS,bF,bF,bF];simp only[aD,not_or];constructor
 ·rintro⟨⟨a1,a2,a3,a4⟩,_,⟨_,⟨_,_,d1⟩,d2⟩,d3⟩
  exact⟨⟨a1,a2,a3,a4⟩,fun y hy=>⟨fun q=>d3 y hy y (.inl q) rfl,fun q=>d3 y hy y (.inr (.inl q)) rfl,fun q=>d3 y hy y (.inr (.inr q)) rfl⟩,fun y hy=>⟨fun q=>d2 y hy y (.inl q) rfl,fun q=>d2 y hy y (.inr q) rfl⟩,fun y hy q=>d1 y hy y q rfl⟩
 ·rintro⟨⟨a1,a2,a3,a4⟩,b1,b2,b3⟩
  refine⟨⟨a1,a2,a3,a4⟩,n _,⟨n _,⟨n _,n _,fun y hy z hz q=> ?_⟩,fun y hy z hz q=> ?_⟩,fun y hy z hz q=> ?_⟩
  ·subst q;exact b3 y hy hz
  ·subst q;exact hz.elim (b2 y hy).1 (b2 y hy).2
  ·subst q
   rcases hz with h|h|h
   ·exact(b1 y hy).1 h
   ·exact(b1 y hy).2.1 h
   ·exact(b1 y hy).2.2 h
section
variable {B B':Nat} {S:List Nat} {w w':World} {pq pd:Nat} {vr vt vw vg vr' vt' vw' vg':Value} {p p':Po}
theorem za.atD (h:za B w pq pd vr vt vw vg p) (d:De):za B w pq pd vr vt vw vg (p.atD d):=⟨h.c,h.r,h.t,h.ow,h.g,h.nd,h.lim⟩
theorem za.setP (h:za B w pq pd vr vt vw vg p) (k:Keep [pq] w w') (hc:jR w' pq (jV pd vr vt vw vg p')) (eR:p'.R=p.R) (eT:p'.T=p.T) (eW:p'.W=p.W) (eG:p'.G=p.G):za B w' pq pd vr vt vw vg p':=by
 obtain⟨⟨a1,a2,a3,a4⟩,_⟩:=mZ.1 h.nd;refine⟨hc,?_,?_,?_,?_,h.nd,fun y hy=>⟨(h.lim y hy).1,aC (h.lim y hy).2 k.size⟩⟩
 ·rw[eR];exact jQ h.r k fun s q r=>by simp at q;subst q;exact a1 r
 ·rw[eT];exact jQ h.t k fun s q r=>by simp at q;subst q;exact a2 r
 ·rw[eW];exact jQ h.ow k fun s q r=>by simp at q;subst q;exact a3 r
 ·rw[eG];exact jQ h.g k fun s q r=>by simp at q;subst q;exact a4 r
theorem za.sets (h:za B w pq pd vr vt vw vg p) (hz:w.heap.size≤w'.heap.size) (hc:jR w' pq (jV pd vr' vt' vw' vg' p')) (hr:w'.ownsRow B 40 2 vr' p'.R.length (l8 p'.R)) (ht:w'.ownsRow B 40 2 vt' p'.T.length (l8 p'.T)) (hw:w'.ownsRow B 3 1 vw' p'.W.length (ints p'.W)) (hg:w'.ownsRow B 137 3 vg' p'.G.length (tX p'.G))
 (hn:(Ac pq vr' vt' vw' vg').Nodup):za B w' pq pd vr' vt' vw' vg' p':=
 ⟨hc,hr,ht,hw,hg,hn,fun y hy=>by
   rcases jU.1 hy with r|r|r|r|r
   ·subst r;exact⟨(h.lim y (jU.2 (.inl rfl))).1,hc.lt⟩
   ·exact jZ hr r
   ·exact jZ ht r
   ·exact jZ hw r
   ·exact jZ hg r⟩
theorem nu {N:Nat} {v v':Value} {Z:List Nat} (hn: ∀y∈jS v',y∈jS v∨N≤y) (hv: ∀y∈jS v,y∉Z) (hZ: ∀z∈Z,z<N): ∀y∈jS v',y∉Z:=fun y hy r=>by
 rcases hn y hy with q|q
 ·exact hv y q r
 ·have:=hZ y r;omega
theorem za.setR (h:za B w pq pd vr vt vw vg p) (k:Keep (pq::jS vr) w w') (hB:B≤B') (hc:jR w' pq (jV pd vr' vt vw vg p')) (hr:w'.ownsRow B' 40 2 vr' p'.R.length (l8 p'.R)) (hn: ∀y∈jS vr',y∈jS vr∨w.heap.size≤y) (eT:p'.T=p.T) (eW:p'.W=p.W) (eG:p'.G=p.G):za B w' pq pd vr' vt vw vg p':=by
 obtain⟨⟨a1,a2,a3,a4⟩,b1,b2,b3⟩:=mZ.1 h.nd;have lt: ∀y∈Ac pq vr vt vw vg,y<w.heap.size:=fun y hy=>(h.lim y hy).2
 have k': ∀(v:Value),pq∉jS v→(∀y∈jS vr,y∉jS v)→∀s∈pq::jS vr,s∉jS v:=fun v h1 h2 s q=>by
  rcases aB.1 q with r|r
  ·subst r;exact h1
  ·exact h2 s r
 refine h.sets k.size hc (qB hr hB) (by rw[eT];exact jQ h.t k (k' _ a2 fun y q=>(b1 y q).1)) (by rw[eW];exact jQ h.ow k (k' _ a3 fun y q=>(b1 y q).2.1)) (by rw[eG];exact jQ h.g k (k' _ a4 fun y q=>(b1 y q).2.2)) (mZ.2 ⟨⟨fun q=> ?_,a2,a3,a4⟩,fun y q=>⟨?_,?_,?_⟩,b2,b3⟩)
 ·exact nu (Z:=[pq]) hn (fun y q r=>a1 (by simp at r;exact r▸q)) (fun z r=>by simp at r;subst r;exact h.c.lt) pq q sI
 ·exact nu hn (fun y q=>(b1 y q).1) (fun z r=>lt z (jU.2 (.inr (.inr (.inl r))))) y q
 ·exact nu hn (fun y q=>(b1 y q).2.1) (fun z r=>lt z (jU.2 (.inr (.inr (.inr (.inl r)))))) y q
 ·exact nu hn (fun y q=>(b1 y q).2.2) (fun z r=>lt z (jU.2 (.inr (.inr (.inr (.inr r)))))) y q
theorem za.setT (h:za B w pq pd vr vt vw vg p) (k:Keep (pq::jS vt) w w') (hB:B≤B') (hc:jR w' pq (jV pd vr vt' vw vg p')) (ht:w'.ownsRow B' 40 2 vt' p'.T.length (l8 p'.T)) (hn: ∀y∈jS vt',y∈jS vt∨w.heap.size≤y) (eR:p'.R=p.R) (eW:p'.W=p.W) (eG:p'.G=p.G):za B w' pq pd vr vt' vw vg p':=by
 obtain⟨⟨a1,a2,a3,a4⟩,b1,b2,b3⟩:=mZ.1 h.nd;have lt: ∀y∈Ac pq vr vt vw vg,y<w.heap.size:=fun y hy=>(h.lim y hy).2
 have k': ∀(v:Value),pq∉jS v→(∀y∈jS vt,y∉jS v)→∀s∈pq::jS vt,s∉jS v:=fun v h1 h2 s q=>by
  rcases aB.1 q with r|r
  ·subst r;exact h1
  ·exact h2 s r
 have f1: ∀y∈jS vt',y∉jS vr:=nu hn (fun y q r=>(b1 y r).1 q) (fun z r=>lt z (jU.2 (.inr (.inl r))));refine h.sets k.size hc (by rw[eR];exact jQ h.r k (k' _ a1 fun y q r=>(b1 y r).1 q)) (qB ht hB) (by rw[eW];exact jQ h.ow k (k' _ a3 fun y q=>(b2 y q).1)) (by rw[eG];exact jQ h.g k (k' _ a4 fun y q=>(b2 y q).2)) (mZ.2 ⟨⟨a1,fun q=> ?_,a3,a4⟩,fun y q=>⟨fun r=>f1 y r q,(b1 y q).2⟩,fun y q=>⟨?_,?_⟩,b3⟩)
 ·exact nu (Z:=[pq]) hn (fun y q r=>a2 (by simp at r;exact r▸q)) (fun z r=>by simp at r;subst r;exact h.c.lt) pq q sI
 ·exact nu hn (fun y q=>(b2 y q).1) (fun z r=>lt z (jU.2 (.inr (.inr (.inr (.inl r)))))) y q
 ·exact nu hn (fun y q=>(b2 y q).2) (fun z r=>lt z (jU.2 (.inr (.inr (.inr (.inr r)))))) y q
theorem za.setW (h:za B w pq pd vr vt vw vg p) (k:Keep (pq::jS vw) w w') (hB:B≤B') (hc:jR w' pq (jV pd vr vt vw' vg p')) (hw:w'.ownsRow B' 3 1 vw' p'.W.length (ints p'.W)) (hn: ∀y∈jS vw',y∈jS vw∨w.heap.size≤y) (eR:p'.R=p.R) (eT:p'.T=p.T) (eG:p'.G=p.G):za B w' pq pd vr vt vw' vg p':=by
 obtain⟨⟨a1,a2,a3,a4⟩,b1,b2,b3⟩:=mZ.1 h.nd;have lt: ∀y∈Ac pq vr vt vw vg,y<w.heap.size:=fun y hy=>(h.lim y hy).2
 have k': ∀(v:Value),pq∉jS v→(∀y∈jS vw,y∉jS v)→∀s∈pq::jS vw,s∉jS v:=fun v h1 h2 s q=>by
  rcases aB.1 q with r|r
  ·subst r;exact h1
  ·exact h2 s r
 have f1: ∀y∈jS vw',y∉jS vr:=nu hn (fun y q r=>(b1 y r).2.1 q) (fun z r=>lt z (jU.2 (.inr (.inl r))));have f2: ∀y∈jS vw',y∉jS vt:=nu hn (fun y q r=>(b2 y r).1 q) (fun z r=>lt z (jU.2 (.inr (.inr (.inl r)))));refine h.sets k.size hc (by rw[eR];exact jQ h.r k (k' _ a1 fun y q r=>(b1 y r).2.1 q)) (by rw[eT];exact jQ h.t k (k' _ a2 fun y q r=>(b2 y r).1 q)) (qB hw hB) (by rw[eG];exact jQ h.g k (k' _ a4 fun y q=>b3 y q)) (mZ.2 ⟨⟨a1,a2,fun q=> ?_,a4⟩,fun y q=>⟨(b1 y q).1,fun r=>f1 y r q,(b1 y q).2.2⟩,fun y q=>⟨fun r=>f2 y r q,(b2 y q).2⟩,fun y q=> ?_⟩)
 ·exact nu (Z:=[pq]) hn (fun y q r=>a3 (by simp at r;exact r▸q)) (fun z r=>by simp at r;subst r;exact h.c.lt) pq q sI
 ·exact nu hn (fun y q=>b3 y q) (fun z r=>lt z (jU.2 (.inr (.inr (.inr (.inr r)))))) y q
theorem za.setG (h:za B w pq pd vr vt vw vg p) (k:Keep (pq::jS vg) w w') (hB:B≤B') (hc:jR w' pq (jV pd vr vt vw vg' p')) (hg:w'.ownsRow B' 137 3 vg' p'.G.length (tX p'.G)) (hn: ∀y∈jS vg',y∈jS vg∨w.heap.size≤y) (eR:p'.R=p.R) (eT:p'.T=p.T) (eW:p'.W=p.W):za B w' pq pd vr vt vw vg' p':=by
 obtain⟨⟨a1,a2,a3,a4⟩,b1,b2,b3⟩:=mZ.1 h.nd;have lt: ∀y∈Ac pq vr vt vw vg,y<w.heap.size:=fun y hy=>(h.lim y hy).2
 have k': ∀(v:Value),pq∉jS v→(∀y∈jS vg,y∉jS v)→∀s∈pq::jS vg,s∉jS v:=fun v h1 h2 s q=>by
  rcases aB.1 q with r|r
  ·subst r;exact h1
  ·exact h2 s r
 have f1: ∀y∈jS vg',y∉jS vr:=nu hn (fun y q r=>(b1 y r).2.2 q) (fun z r=>lt z (jU.2 (.inr (.inl r))));have f2: ∀y∈jS vg',y∉jS vt:=nu hn (fun y q r=>(b2 y r).2 q) (fun z r=>lt z (jU.2 (.inr (.inr (.inl r)))));have f3: ∀y∈jS vg',y∉jS vw:=nu hn (fun y q r=>b3 y r q) (fun z r=>lt z (jU.2 (.inr (.inr (.inr (.inl r))))));refine h.sets k.size hc (by rw[eR];exact jQ h.r k (k' _ a1 fun y q r=>(b1 y r).2.2 q)) (by rw[eT];exact jQ h.t k (k' _ a2 fun y q r=>(b2 y r).2 q)) (by rw[eW];exact jQ h.ow k (k' _ a3 fun y q r=>b3 y r q)) (qB hg hB) (mZ.2 ⟨⟨a1,a2,a3,fun q=> ?_⟩,fun y q=>⟨(b1 y q).1,(b1 y q).2.1,fun r=>f1 y r q⟩,fun y q=>⟨(b2 y q).1,fun r=>f2 y r q⟩,fun y q r=>f3 y r q⟩);exact nu (Z:=[pq]) hn (fun y q r=>a4 (by simp at r;exact r▸q)) (fun z r=>by simp at r;subst r;exact h.c.lt) pq q sI
end
section
variable {pd e:Nat} {mn:Int} {O:List (List Int)} {w0:World} {E:vC pd e mn O w0} {X X0 F G Y L N:List Nat} {w w' W W':World} {pq b:Nat} {vr vt vw vg vr' vt' vw' vg':Value} {p p':Po} {d:De} {r:Value} {en:Ending}
theorem Gg (h:EPost (vD E pq).S X F p w r en w') (hi:nX e p):EPost (jX E pq).S X F p w r en w':=by
 obtain⟨h1,X',h2,h3,h4,h5⟩:=h;exact⟨h1,X',⟨h2,hi⟩,h3,h4,h5⟩
theorem Qx (h:EPost (jX E pq).S X F p w r en w'):EPost (vD E pq).S X F p w r en w'∧nX e p:=by
 obtain⟨h1,X',h2,h3⟩:=h;exact⟨⟨h1,X',h2.1,h3⟩,h2.2⟩
theorem pI.start (h:Gu E X F pq vr vt vw vg p w):pI E pq X F w [] X vr vt vw vg p w:=⟨pQ.start (E:=vD E pq) ⟨_,_,_,_,h⟩,h⟩
theorem pI.go (h:pI E pq X0 F w L X vr vt vw vg p W) (k:Below W.heap.size W W'):pI E pq X0 F w L X vr vt vw vg p W':=⟨h.run.go k,h.at_.go k⟩
theorem pI.box (h:pI E pq X0 F w L X vr vt vw vg p W) (o:Obj):pI E pq X0 F w (W.heap.size::L) (W.heap.size::X) vr vt vw vg p (W.alloc o):=by
 refine⟨h.run.box o,?_⟩;exact h.at_.uS (Y:=[W.heap.size]) (G:=[]) (Keep.of ((aL _ _).alloc (aI _) o)) (fun g q=>by cases q) (fun y hy=>by simp at hy;subst hy;simp)
theorem pI.wr (h:pI E pq X0 F w L X vr vt vw vg p W) (hb:b∈L) (k:Keep [b] W W'):pI E pq X0 F w L X vr vt vw vg p W':=
 ⟨h.run.wr hb k,h.at_.other k fun g q=>by simp at q;subst q;exact av _ hb⟩
theorem pI.nL (h:pI E pq X0 F w L X vr vt vw vg p W) (hb:b∈L):b∉Ac pq vr vt vw vg:=h.at_.f b (av _ hb)
theorem pI.dep (h:pI E pq X0 F w L X vr vt vw vg p W) (hp:EPost E.S X (Ac pq vr vt vw vg++(L++F)) d W r en W'):en= .returned r∧∃X',pI E pq X0 F w L X' vr vt vw vg (p.atD d) W'∧Keep (off X (Ac pq vr vt vw vg++(L++F))) W W':=by
 obtain⟨h1,X',h2,h3,h4,h5⟩:=hp;have a':Gu E X' (L++F) pq vr vt vw vg (p.atD d) W':=⟨h2,(h.at_.b.atD d).keep h3 (fun s t u=>(jW.1 t).2 (av _ u)),h.at_.f⟩;have h6:EPost (vD E pq).S X (L++F) (p.atD d) W r en W':=⟨h1,X',⟨_,_,_,_,a'⟩,h3.mono (fun s t=>jW.2 ⟨(jW.1 t).1,fun u=>(jW.1 t).2 (aj _ u)⟩),h4,h5⟩;have z:=h.run.k.size;refine⟨h1,X',⟨⟨⟨_,_,_,_,a'⟩,h.run.k.trans h3 fun s q=> ?_,fun x q=> ?_,fun x q=>h5 x (h.run.x2 x q),fun b q=>⟨(h.run.l b q).1,aC (h.run.l b q).2 h3.size⟩⟩,a'⟩,h3⟩
 ·obtain⟨q1,q2⟩:=jW.1 q
  exact(h.run.x1 s q1).imp (fun t=>jW.2 ⟨t,fun u=>q2 (aj _ (aj _ u))⟩) id
 ·rcases h4 x q with t|t
  ·exact h.run.x1 x t
  ·exact .inr om
theorem pI.put (h:pI E pq X0 F w L X vr vt vw vg p W) (k:Keep (Ac pq vr vt vw vg) W W') (hw: ∀y∈Ac pq vr' vt' vw' vg',y∈Ac pq vr vt vw vg∨W.heap.size≤y) (hb:za w0.heap.size W' pq pd vr' vt' vw' vg' p') (hd:p'.d=p.d):
 ∃X',pI E pq X0 F w L X' vr' vt' vw' vg' p' W':=by
 have hY: ∀y∈(Ac pq vr' vt' vw' vg').filter (fun y=>decide (W.heap.size≤y)),W.heap.size≤y∧y<W'.heap.size:=fun y q=>by
  obtain⟨q1,q2⟩:=bG.1 q;exact⟨of_decide_eq_true q2,(hb.lim y q1).2⟩
 have z:=h.run.k.size;have t1:=E.uS (Y:=(Ac pq vr' vt' vw' vg').filter (fun y=>decide (W.heap.size≤y))) h.at_.s k (fun g q=>av _ q) hY;have a':Gu E ((Ac pq vr' vt' vw' vg').filter (fun y=>decide (W.heap.size≤y))++X) (L++F) pq vr' vt' vw' vg' p' W':=by
  refine⟨?_,hb,fun f q r=> ?_⟩
  ·rw[hd]
   refine E.wB t1 fun g q=> ?_
   rcases aD.1 q with q|q
   ·rcases hw g q with r|r
    ·exact aj _ (av _ r)
    ·exact av _ (bG.2 ⟨q,dQt r⟩)
   ·exact aj _ (aj _ q)
  ·rcases hw f r with u|u
   ·exact h.at_.f f q u
   ·have:=(E.lim h.at_.s f (E.sU h.at_.s f (aj _ q))).2;omega
 refine⟨_,⟨⟨⟨_,_,_,_,a'⟩,h.run.k.trans k fun s q=> ?_,fun x q=> ?_,fun x q=>aj _ (h.run.x2 x q),fun b q=>⟨(h.run.l b q).1,aC (h.run.l b q).2 k.size⟩⟩,a'⟩⟩
 ·have hm:=E.sU h.at_.s s (av _ q)
  exact(h.run.x1 s hm).imp (fun t=>jW.2 ⟨t,fun u=>h.at_.f s (aj _ u) q⟩) id
 ·rcases aD.1 q with u|u
  ·have:=(hY x u).1;exact .inr om
  ·exact h.run.x1 x u
theorem pI.fin (h:pI E pq X0 F w L X vr vt vw vg p W) (hi:nX e p):EPost (jX E pq).S X0 F p w r (.returned r) W:=Gg h.run.fin hi
theorem pI.setP (h:pI E pq X0 F w L X vr vt vw vg p W) (k:Keep [pq] W W') (hc:jR W' pq (jV pd vr vt vw vg p')) (hd:p'.d=p.d) (eR:p'.R=p.R) (eT:p'.T=p.T) (eW:p'.W=p.W) (eG:p'.G=p.G): ∃X',pI E pq X0 F w L X' vr vt vw vg p' W':=
 h.put (k.mono fun s q=>by simp at q;subst q;exact jU.2 (.inl rfl)) (fun y q=>.inl q) (h.at_.b.setP k hc eR eT eW eG) hd
theorem pI.setR {B':Nat} (h:pI E pq X0 F w L X vr vt vw vg p W) (k:Keep (pq::jS vr) W W') (hB:w0.heap.size≤B') (hc:jR W' pq (jV pd vr' vt vw vg p')) (hr:W'.ownsRow B' 40 2 vr' p'.R.length (l8 p'.R)) (hn: ∀y∈jS vr',y∈jS vr∨W.heap.size≤y) (hd:p'.d=p.d) (eT:p'.T=p.T) (eW:p'.W=p.W) (eG:p'.G=p.G): ∃X',pI E pq X0 F w L X' vr' vt vw vg p' W':=
 h.put (k.mono fun s q=>jU.2 ((aB.1 q).imp id .inl)) (fun y q=>by
  rcases jU.1 q with u|u|u
  ·exact .inl (jU.2 (.inl u))
  ·exact(hn y u).imp (fun v=>jU.2 (.inr (.inl v))) id
  ·exact .inl (jU.2 (.inr (.inr u)))) (h.at_.b.setR k hB hc hr hn eT eW eG) hd
theorem pI.setT {B':Nat} (h:pI E pq X0 F w L X vr vt vw vg p W) (k:Keep (pq::jS vt) W W') (hB:w0.heap.size≤B') (hc:jR W' pq (jV pd vr vt' vw vg p')) (ht:W'.ownsRow B' 40 2 vt' p'.T.length (l8 p'.T)) (hn: ∀y∈jS vt',y∈jS vt∨W.heap.size≤y) (hd:p'.d=p.d) (eR:p'.R=p.R) (eW:p'.W=p.W) (eG:p'.G=p.G): ∃X',pI E pq X0 F w L X' vr vt' vw vg p' W':=
 h.put (k.mono fun s q=>jU.2 ((aB.1 q).imp id fun u=>.inr (.inl u))) (fun y q=>by
  rcases jU.1 q with u|u|u|u
  ·exact .inl (jU.2 (.inl u))
  ·exact .inl (jU.2 (.inr (.inl u)))
  ·exact(hn y u).imp (fun v=>jU.2 (.inr (.inr (.inl v)))) id
  ·exact .inl (jU.2 (.inr (.inr (.inr u))))) (h.at_.b.setT k hB hc ht hn eR eW eG) hd
theorem pI.setW {B':Nat} (h:pI E pq X0 F w L X vr vt vw vg p W) (k:Keep (pq::jS vw) W W') (hB:w0.heap.size≤B') (hc:jR W' pq (jV pd vr vt vw' vg p')) (hw:W'.ownsRow B' 3 1 vw' p'.W.length (ints p'.W)) (hn: ∀y∈jS vw',y∈jS vw∨W.heap.size≤y) (hd:p'.d=p.d) (eR:p'.R=p.R) (eT:p'.T=p.T) (eG:p'.G=p.G): ∃X',pI E pq X0 F w L X' vr vt vw' vg p' W':=
 h.put (k.mono fun s q=>jU.2 ((aB.1 q).imp id fun u=>.inr (.inr (.inl u)))) (fun y q=>by
  rcases jU.1 q with u|u|u|u|u
  ·exact .inl (jU.2 (.inl u))
  ·exact .inl (jU.2 (.inr (.inl u)))
  ·exact .inl (jU.2 (.inr (.inr (.inl u))))
  ·exact(hn y u).imp (fun v=>jU.2 (.inr (.inr (.inr (.inl v))))) id
  ·exact .inl (jU.2 (.inr (.inr (.inr (.inr u)))))) (h.at_.b.setW k hB hc hw hn eR eT eG) hd
theorem pI.setG {B':Nat} (h:pI E pq X0 F w L X vr vt vw vg p W) (k:Keep (pq::jS vg) W W') (hB:w0.heap.size≤B') (hc:jR W' pq (jV pd vr vt vw vg' p')) (hg:W'.ownsRow B' 137 3 vg' p'.G.length (tX p'.G)) (hn: ∀y∈jS vg',y∈jS vg∨W.heap.size≤y) (hd:p'.d=p.d) (eR:p'.R=p.R) (eT:p'.T=p.T) (eW:p'.W=p.W): ∃X',pI E pq X0 F w L X' vr vt vw vg' p' W':=
 h.put (k.mono fun s q=>jU.2 ((aB.1 q).imp id fun u=>.inr (.inr (.inr u)))) (fun y q=>by
  rcases jU.1 q with u|u|u|u|u
  ·exact .inl (jU.2 (.inl u))
  ·exact .inl (jU.2 (.inr (.inl u)))
  ·exact .inl (jU.2 (.inr (.inr (.inl u))))
  ·exact .inl (jU.2 (.inr (.inr (.inr (.inl u)))))
  ·exact(hn y u).imp (fun v=>jU.2 (.inr (.inr (.inr (.inr v))))) id) (h.at_.b.setG k hB hc hg hn eR eT eW) hd
theorem Gh {v v':Value} {N:Nat} (hn: ∀y∈jS v',y∈jS v∨N≤y) (h1:pq∉jS v) (h2:pq<N):pq∉jS v':=fun q=>by
 rcases hn pq q with r|r
 ·exact h1 r
 ·omega
theorem pI.rowR {B' n k4:Nat} {q4:Option Addr} {w4 w5:World} {R':List Ob} (h:pI E pq X0 F w L X vr vt vw vg p W) (K4:Keep (jS vr) W w4) (hB:w0.heap.size≤B') (hown:w4.ownsRow B' 40 2 (.slice q4 n k4) n (l8 R')) (hm:n=R'.length)
 (hz: ∀y∈jS (.slice q4 n k4),y∈jS vr∨W.heap.size≤y) (h5:w5=w4.setCell ⟨pq,2,none⟩ (.slice q4 n k4)):(∃X',pI E pq X0 F w L X' (.slice q4 n k4) vt vw vg ⟨p.d,p.most,R',p.T,p.W,p.G,p.last,p.cl⟩ w5)∧Keep (pq::jS vr) W w5:=by
 obtain⟨⟨a1,a2,a3,a4⟩,_⟩:=mZ.1 h.at_.b.nd;have c4:=h.at_.b.c.keep K4 a1;have K5:Keep [pq] w4 w5:=by rw[h5];exact(Keep.refl _ _).setCell (p:=⟨pq,2,none⟩) (.inl sI) _
 have KK:Keep (pq::jS vr) W w5:=(K4.mono fun s q=>ak _ q).then (K5.mono fun s q=>by simp at q;subst q;simp);have np:pq∉jS (.slice q4 n k4):=Gh hz a1 h.at_.b.c.lt;refine⟨h.setR (p':=⟨p.d,p.most,R',p.T,p.W,p.G,p.last,p.cl⟩) KK hB ?_ ?_ hz rfl rfl rfl rfl,KK⟩
 ·rw[h5]
  exact c4.store 2 (.slice q4 n k4) (by simp[jV])
 ·show w5.ownsRow B' 40 2 (.slice q4 n k4) R'.length (l8 R')
  rw[←hm];exact jQ hown K5 (fun s q r=>by simp at q;subst q;exact np r)
theorem pI.Sg {B' n k4:Nat} {q4:Option Addr} {w4 w5:World} {T':List Ob} (h:pI E pq X0 F w L X vr vt vw vg p W) (K4:Keep (jS vt) W w4) (hB:w0.heap.size≤B') (hown:w4.ownsRow B' 40 2 (.slice q4 n k4) n (l8 T')) (hm:n=T'.length)
 (hz: ∀y∈jS (.slice q4 n k4),y∈jS vt∨W.heap.size≤y) (h5:w5=w4.setCell ⟨pq,3,none⟩ (.slice q4 n k4)):(∃X',pI E pq X0 F w L X' vr (.slice q4 n k4) vw vg ⟨p.d,p.most,p.R,T',p.W,p.G,p.last,p.cl⟩ w5)∧Keep (pq::jS vt) W w5:=by
 obtain⟨⟨a1,a2,a3,a4⟩,_⟩:=mZ.1 h.at_.b.nd;have c4:=h.at_.b.c.keep K4 a2;have K5:Keep [pq] w4 w5:=by rw[h5];exact(Keep.refl _ _).setCell (p:=⟨pq,3,none⟩) (.inl sI) _
 have KK:Keep (pq::jS vt) W w5:=(K4.mono fun s q=>ak _ q).then (K5.mono fun s q=>by simp at q;subst q;simp);have np:pq∉jS (.slice q4 n k4):=Gh hz a2 h.at_.b.c.lt;refine⟨h.setT (p':=⟨p.d,p.most,p.R,T',p.W,p.G,p.last,p.cl⟩) KK hB ?_ ?_ hz rfl rfl rfl rfl,KK⟩
 ·rw[h5]
  exact c4.store 3 (.slice q4 n k4) (by simp[jV])
 ·show w5.ownsRow B' 40 2 (.slice q4 n k4) T'.length (l8 T')
  rw[←hm];exact jQ hown K5 (fun s q r=>by simp at q;subst q;exact np r)
theorem pI.rowW {B' n k4:Nat} {q4:Option Addr} {w4 w5:World} {W':List Int} (h:pI E pq X0 F w L X vr vt vw vg p W) (K4:Keep (jS vw) W w4) (hB:w0.heap.size≤B') (hown:w4.ownsRow B' 3 1 (.slice q4 n k4) n (ints W')) (hm:n=W'.length)
 (hz: ∀y∈jS (.slice q4 n k4),y∈jS vw∨W.heap.size≤y) (h5:w5=w4.setCell ⟨pq,4,none⟩ (.slice q4 n k4)):(∃X',pI E pq X0 F w L X' vr vt (.slice q4 n k4) vg ⟨p.d,p.most,p.R,p.T,W',p.G,p.last,p.cl⟩ w5)∧Keep (pq::jS vw) W w5:=by
 obtain⟨⟨a1,a2,a3,a4⟩,_⟩:=mZ.1 h.at_.b.nd;have c4:=h.at_.b.c.keep K4 a3;have K5:Keep [pq] w4 w5:=by rw[h5];exact(Keep.refl _ _).setCell (p:=⟨pq,4,none⟩) (.inl sI) _
 have KK:Keep (pq::jS vw) W w5:=(K4.mono fun s q=>ak _ q).then (K5.mono fun s q=>by simp at q;subst q;simp);have np:pq∉jS (.slice q4 n k4):=Gh hz a3 h.at_.b.c.lt;refine⟨h.setW (p':=⟨p.d,p.most,p.R,p.T,W',p.G,p.last,p.cl⟩) KK hB ?_ ?_ hz rfl rfl rfl rfl,KK⟩
 ·rw[h5]
  exact c4.store 4 (.slice q4 n k4) (by simp[jV])
 ·show w5.ownsRow B' 3 1 (.slice q4 n k4) W'.length (ints W')
  rw[←hm];exact jQ hown K5 (fun s q r=>by simp at q;subst q;exact np r)
theorem pI.rowG {B' n k4:Nat} {q4:Option Addr} {w4 w5:World} {G':List (Int×Ob)} (h:pI E pq X0 F w L X vr vt vw vg p W) (K4:Keep (jS vg) W w4) (hB:w0.heap.size≤B') (hown:w4.ownsRow B' 137 3 (.slice q4 n k4) n (tX G')) (hm:n=G'.length)
 (hz: ∀y∈jS (.slice q4 n k4),y∈jS vg∨W.heap.size≤y) (h5:w5=w4.setCell ⟨pq,5,none⟩ (.slice q4 n k4)):(∃X',pI E pq X0 F w L X' vr vt vw (.slice q4 n k4) ⟨p.d,p.most,p.R,p.T,p.W,G',p.last,p.cl⟩ w5)∧Keep (pq::jS vg) W w5:=by
 obtain⟨⟨a1,a2,a3,a4⟩,_⟩:=mZ.1 h.at_.b.nd;have c4:=h.at_.b.c.keep K4 a4;have K5:Keep [pq] w4 w5:=by rw[h5];exact(Keep.refl _ _).setCell (p:=⟨pq,5,none⟩) (.inl sI) _
 have KK:Keep (pq::jS vg) W w5:=(K4.mono fun s q=>ak _ q).then (K5.mono fun s q=>by simp at q;subst q;simp);have np:pq∉jS (.slice q4 n k4):=Gh hz a4 h.at_.b.c.lt;refine⟨h.setG (p':=⟨p.d,p.most,p.R,p.T,p.W,G',p.last,p.cl⟩) KK hB ?_ ?_ hz rfl rfl rfl rfl,KK⟩
 ·rw[h5]
  exact c4.store 5 (.slice q4 n k4) (by simp[jV])
 ·show w5.ownsRow B' 137 3 (.slice q4 n k4) G'.length (tX G')
  rw[←hm];exact jQ hown K5 (fun s q r=>by simp at q;subst q;exact np r)
theorem pI.cellP {i:Nat} {u:Value} {w5:World} (h:pI E pq X0 F w L X vr vt vw vg p W) (h5:w5=W.setCell ⟨pq,i,none⟩ u) (hc:(jV pd vr vt vw vg p).set i u=jV pd vr vt vw vg p') (hi:i<8) (hd:p'.d=p.d) (eR:p'.R=p.R) (eT:p'.T=p.T) (eW:p'.W=p.W) (eG:p'.G=p.G):(∃X',pI E pq X0 F w L X' vr vt vw vg p' w5)∧Keep [pq] W w5:=by
 have K5:Keep [pq] W w5:=by rw[h5];exact(Keep.refl _ _).setCell (p:=⟨pq,i,none⟩) (.inl sI) _
 refine⟨h.setP K5 ?_ hd eR eT eW eG,K5⟩;rw[h5,←hc];exact h.at_.b.c.store i u (by simp[jV];exact hi)
end
section
variable {σ τ σ' τ':Type} {w0 w1:World} {E:FEnv σ w0} {D:FEnv τ w1} {E':FEnv σ' w0} {D':FEnv τ' w1} {w W W':World} {L X F Y G X' Y':List Nat} {d:σ} {m:τ} {d':σ'} {m':τ'} {b:Nat} {r:Value} {en:Ending}
theorem lT.zP {f:FuncId} {args:Array Value} (h:lT E D w L d m W) {d2:σ} (hc: ∀X F,E.S X F d W→Calls prog f args W (EPost E.S X F d2 W r)):Calls prog f args W fun en W'=>en= .returned r∧lT E D w L d2 m W'∧∃K,Keep K W W'∧∀b∈L,b∉K:=by
 obtain⟨X,F,Y,G,q⟩:=h;exact(hc X F q.s).mono fun en W' hp=>by
  obtain⟨h1,h2,h3,h4⟩:=q.act1 hp;exact⟨h1,h2,_,h3,h4⟩
theorem lT.Ak {f:FuncId} {args:Array Value} (h:lT E D w L d m W) {m2:τ} (hc: ∀Y G,D.S Y G m W→Calls prog f args W (EPost D.S Y G m2 W r)):Calls prog f args W fun en W'=>en= .returned r∧lT E D w L d m2 W'∧∃K,Keep K W W'∧∀b∈L,b∉K:=by
 obtain⟨X,F,Y,G,q⟩:=h;exact(hc Y G q.t).mono fun en W' hp=>by
  obtain⟨h1,h2,h3,h4⟩:=q.act2 hp;exact⟨h1,h2,_,h3,h4⟩
end
section
variable {w w' w3 W:World} {X L:List Nat} {ev:Nat→Addr} {pd pc pz gh pdm ghm pcm pm gN e pp pq:Nat} {mn lw hi:Int} {O:List (List Int)} {d m:De} {p:Po}
end
theorem Xb:ElS 60 137 (.agg #[.int .i64 0,.int .i64 0,.int .i64 0]) 3 24:=⟨Tryz.underlying60,kR,rfl,om,om⟩
section
variable {B:Nat} {E:TypeId} {s n cap g:Nat} {xs:List Value} {w W:World}
end
theorem Cq (l:List (Int×Ob)):(tX l).length=3*l.length:=by
 induction l with
 |nil=>rfl
 |cons a l ih=>simp[tX] at ih ⊢;omega
theorem Cr (l m:List (Int×Ob)):tX (l++m)=tX l++tX m:=by simp[tX]
theorem AU (l:List (Int×Ob)): ∀u∈tX l,u.oneCell'=true:=by
 intro u hu;simp only[tX,eB] at hu;obtain⟨x,_,hx⟩:=hu;simp at hx;rcases hx with rfl|rfl|rfl<;>rfl
theorem Xc (l:List Ob) (i:Nat):l8 (l.take i)=(l8 l).take (2*i):=by
 induction l generalizing i with
 |nil=>simp[l8]
 |cons a l ih=>
  cases i with
  |zero=>simp[l8]
  |succ i=>have:=ih i;simp only[l8,aQ,dL] at this ⊢;rw[this,Nat.mul_succ];simp
theorem Xd (l:List Ob) (i:Nat):l8 (l.drop i)=(l8 l).drop (2*i):=by
 induction l generalizing i with
 |nil=>simp[l8]
 |cons a l ih=>
  cases i with
  |zero=>simp[l8]
  |succ i=>have:=ih i;simp only[l8,aP,dL] at this ⊢;rw[this,Nat.mul_succ];simp
theorem Xe (l:List (Int×Ob)) (i:Nat):tX (l.take i)=(tX l).take (3*i):=by
 induction l generalizing i with
 |nil=>simp[tX]
 |cons a l ih=>
  cases i with
  |zero=>simp[tX]
  |succ i=>have:=ih i;simp only[tX,aQ,dL] at this ⊢;rw[this,Nat.mul_succ];simp
theorem Iw (l:List (Int×Ob)) (i:Nat):tX (l.drop i)=(tX l).drop (3*i):=by
 induction l generalizing i with
 |nil=>simp[tX]
 |cons a l ih=>
  cases i with
  |zero=>simp[tX]
  |succ i=>have:=ih i;simp only[tX,aP,dL] at this ⊢;rw[this,Nat.mul_succ];simp
theorem Xf {B:Nat} (v:Value) (xs:List Int) (i:Nat) (w:World) (h:w.ownsRow B 3 1 v xs.length (ints xs)) (hl:xs.length≤66000) (hi:i<xs.length):
 Calls prog 68 #[v,.int .i64 i] w fun e w'=>∃q k,e= .returned (.slice q (xs.length-1) k)∧w'.ownsRow w.heap.size 3 1 (.slice q (xs.length-1) k) (xs.length-1) (ints (xs.eraseIdx i))∧Below w.heap.size w w':=by
 have il:=sK xs;obtain⟨g,cap,hv,hcap,hmax⟩: ∃g cap,v= .slice (some ⟨g,0,none⟩) xs.length cap∧xs.length≤cap∧cap≤maxLen:=by
  rcases h.2 with⟨_,h3⟩|⟨g,cap,cur,e,_,_,hc,hm,_⟩
  ·omega
  ·exact⟨g,cap,e,hc,hm⟩
 subst hv;have T0:(ints (xs.take i)).length=i*1:=by rw[sK,bD];omega
 have D0:(ints (xs.drop (i+1))).length=(xs.length-(i+1))*1:=by rw[sK,bY];omega
 have S1:Hid (uP w (some ⟨g,0,none⟩) (ints (xs.take i))):=by rw[Ir];exact AP h _ (aL _ _)
 have S2:Hid (∀W,Below w.heap.size w W→uP W (some ⟨g,(i+1),none⟩) (ints (xs.drop (i+1)))):=fun W hW=>by
  have:=AO h (i+1) hW;rw[←Iu] at this;exact this
 have ER:ints (xs.eraseIdx i)=ints (xs.take i)++ints (xs.drop (i+1)):=by rw[dM,vS]
 have HER:=ah ER;obtain⟨n,hn⟩:=eY xs.length;rw[←hn] at hl hi hcap D0 ⊢;have HT:=ah T0;have HD:=ah D0;have i0:(0:Int)≤(i:Int):=om;have i1:(i:Int)≤(cap:Int):=om;have i2:(i:Int)+1≤(n:Int):=om;have i3:(0:Int)≤(i:Int)+1:=om;have i4:((i:Int)+1).toNat=i+1:=om;have i5:(n:Int)≤(cap:Int):=om;have e9:i+(n-(i+1))=n-1:=om;have E9:=ah e9;unfold maxLen at hmax;clear h T0 D0 hn il ER e9;by_cases hc:cap=i+1
 ·obtain rfl:n=i+1:=by omega
  subst hc;have hz:ints (xs.drop (i+1))=[]:=bM.1 (by rw[HD.out,iL,Nat.zero_mul]);have S3:Hid (∀W,Below w.heap.size w W→uP W (some ⟨g,0,none⟩) (ints (xs.drop (i+1)))):=fun W _=>by rw[hz];exact .inr ⟨_,rfl,fun j u hj=>by simp at hj⟩
  have hD3:(ints (xs.drop (i+1))).length=0*1:=by rw[hz];simp
  have HD3:=ah hD3;clear hz hD3;go_in
  go_wp2_with (first|(at_builtin;refine kP wW (base:=w.heap.size) (v:=.slice none 0 0) (n:=0) (m:=i) (xs:=[]) (ms:=ints (xs.take i)) (p:=some ⟨g,0,none⟩) rf (.tmp 6) (.tmp 9) rf rf rf (aT _ _ _ _) HT.out S1.out (pO _) om (aI _) ?_;intro q1 k1 w1 hown1 hg1 ho1;have hb1:=(aL _ _).grown hg1 (aI _) (fun r hr=>by cases hr);have sr:=S3.out w1 hb1;rw[bK] at hown1 ho1;rw[dx] at hown1)|(at_builtin;refine kP wW (base:=w.heap.size) (v:=.slice q1 i k1) (n:=i) (m:=0) (xs:=ints (xs.take i)) (ms:=ints (xs.drop (i+1))) (p:=some ⟨g,0,none⟩) rf (.tmp 11) (.tmp 15) rf rf rf hown1 HD3.out sr (pO _) om hb1.size ?_;intro q2 k2 w2 hown2 hg2 ho2));have hb2:Below w.heap.size w w2:=((Keep.of (S:=[]) hb1).trans (kJ hg2) (fun s hs=>.inr (jZ hown1 hs).1)).rA;simp only[gP] at hown2 ⊢;go_ret;refine⟨q2,k2,rfl,?_,hb2⟩;rw[HER.out];exact hown2
 ·go_in
  go_wp2_with (first|(at_builtin;refine kP wW (base:=w.heap.size) (v:=.slice none 0 0) (n:=0) (m:=i) (xs:=[]) (ms:=ints (xs.take i)) (p:=some ⟨g,0,none⟩) rf (.tmp 6) (.tmp 9) rf rf rf (aT _ _ _ _) HT.out S1.out (pO _) om (aI _) ?_;intro q1 k1 w1 hown1 hg1 ho1;have hb1:=(aL _ _).grown hg1 (aI _) (fun r hr=>by cases hr);have sr:=S2.out w1 hb1;rw[bK] at hown1 ho1;rw[dx] at hown1)|(at_builtin;refine kP wW (base:=w.heap.size) (v:=.slice q1 i k1) (n:=i) (m:=n-(i+1)) (xs:=ints (xs.take i)) (ms:=ints (xs.drop (i+1))) (p:=some ⟨g,(i+1),none⟩) rf (.tmp 11) (.tmp 15) rf rf rf hown1 HD.out sr (pO _) om hb1.size ?_;intro q2 k2 w2 hown2 hg2 ho2));have hb2:Below w.heap.size w w2:=((Keep.of (S:=[]) hb1).trans (kJ hg2) (fun s hs=>.inr (jZ hown1 hs).1)).rA;rw[E9.out] at hown2 ⊢;go_ret;refine⟨q2,k2,rfl,?_,hb2⟩;rw[HER.out];exact hown2
theorem Xg {B:Nat} (v:Value) (xs:List Ob) (i:Nat) (w:World) (h:w.ownsRow B 40 2 v xs.length (l8 xs)) (hl:xs.length≤66000) (hi:i<xs.length):
 Calls prog 63 #[v,.int .i64 i] w fun e w'=>∃q k,e= .returned (.slice q (xs.length-1) k)∧w'.ownsRow w.heap.size 40 2 (.slice q (xs.length-1) k) (xs.length-1) (l8 (xs.eraseIdx i))∧Below w.heap.size w w':=by
 have il:=lU xs;obtain⟨g,cap,hv,hcap,hmax⟩: ∃g cap,v= .slice (some ⟨g,0,none⟩) xs.length cap∧xs.length≤cap∧cap≤maxLen:=by
  rcases h.2 with⟨_,h3⟩|⟨g,cap,cur,e,_,_,hc,hm,_⟩
  ·omega
  ·exact⟨g,cap,e,hc,hm⟩
 subst hv;have T0:(l8 (xs.take i)).length=i*2:=by rw[lU,bD];omega
 have D0:(l8 (xs.drop (i+1))).length=(xs.length-(i+1))*2:=by rw[lU,bY];omega
 have S1:Hid (uP w (some ⟨g,0,none⟩) (l8 (xs.take i))):=by rw[Xc];exact AP h _ (aL _ _)
 have S2:Hid (∀W,Below w.heap.size w W→uP W (some ⟨g,((i+1)*2),none⟩) (l8 (xs.drop (i+1)))):=fun W hW=>by
  have:=AO h (2*(i+1)) hW;rw[←Xd] at this;rw[Nat.mul_comm] at this;exact this
 have ER:l8 (xs.eraseIdx i)=l8 (xs.take i)++l8 (xs.drop (i+1)):=by rw[dM,qD]
 have HER:=ah ER;obtain⟨n,hn⟩:=eY xs.length;rw[←hn] at hl hi hcap D0 ⊢;have HT:=ah T0;have HD:=ah D0;have i0:(0:Int)≤(i:Int):=om;have i1:(i:Int)≤(cap:Int):=om;have i2:(i:Int)+1≤(n:Int):=om;have i3:(0:Int)≤(i:Int)+1:=om;have i4:((i:Int)+1).toNat=i+1:=om;have i5:(n:Int)≤(cap:Int):=om;have e9:i+(n-(i+1))=n-1:=om;have E9:=ah e9;unfold maxLen at hmax;clear h T0 D0 hn il ER e9;by_cases hc:cap=i+1
 ·obtain rfl:n=i+1:=by omega
  subst hc;have hz:l8 (xs.drop (i+1))=[]:=bM.1 (by rw[HD.out,iL,Nat.zero_mul]);have S3:Hid (∀W,Below w.heap.size w W→uP W (some ⟨g,0,none⟩) (l8 (xs.drop (i+1)))):=fun W _=>by rw[hz];exact .inr ⟨_,rfl,fun j u hj=>by simp at hj⟩
  have hD3:(l8 (xs.drop (i+1))).length=0*2:=by rw[hz];simp
  have HD3:=ah hD3;clear hz hD3;go_in
  go_wp2_with (first|(at_builtin;refine kP uh (base:=w.heap.size) (v:=.slice none 0 0) (n:=0) (m:=i) (xs:=[]) (ms:=l8 (xs.take i)) (p:=some ⟨g,0,none⟩) rf (.tmp 6) (.tmp 9) rf rf rf (aT _ _ _ _) HT.out S1.out (qP _) om (aI _) ?_;intro q1 k1 w1 hown1 hg1 ho1;have hb1:=(aL _ _).grown hg1 (aI _) (fun r hr=>by cases hr);have sr:=S3.out w1 hb1;rw[bK] at hown1 ho1;rw[dx] at hown1)|(at_builtin;refine kP uh (base:=w.heap.size) (v:=.slice q1 i k1) (n:=i) (m:=0) (xs:=l8 (xs.take i)) (ms:=l8 (xs.drop (i+1))) (p:=some ⟨g,0,none⟩) rf (.tmp 11) (.tmp 15) rf rf rf hown1 HD3.out sr (qP _) om hb1.size ?_;intro q2 k2 w2 hown2 hg2 ho2));have hb2:Below w.heap.size w w2:=((Keep.of (S:=[]) hb1).trans (kJ hg2) (fun s hs=>.inr (jZ hown1 hs).1)).rA;simp only[gP] at hown2 ⊢;go_ret;refine⟨q2,k2,rfl,?_,hb2⟩;rw[HER.out];exact hown2
 ·go_in
  go_wp2_with (first|(at_builtin;refine kP uh (base:=w.heap.size) (v:=.slice none 0 0) (n:=0) (m:=i) (xs:=[]) (ms:=l8 (xs.take i)) (p:=some ⟨g,0,none⟩) rf (.tmp 6) (.tmp 9) rf rf rf (aT _ _ _ _) HT.out S1.out (qP _) om (aI _) ?_;intro q1 k1 w1 hown1 hg1 ho1;have hb1:=(aL _ _).grown hg1 (aI _) (fun r hr=>by cases hr);have sr:=S2.out w1 hb1;rw[bK] at hown1 ho1;rw[dx] at hown1)|(at_builtin;refine kP uh (base:=w.heap.size) (v:=.slice q1 i k1) (n:=i) (m:=n-(i+1)) (xs:=l8 (xs.take i)) (ms:=l8 (xs.drop (i+1))) (p:=some ⟨g,((i+1)*2),none⟩) rf (.tmp 11) (.tmp 15) rf rf rf hown1 HD.out sr (qP _) om hb1.size ?_;intro q2 k2 w2 hown2 hg2 ho2));have hb2:Below w.heap.size w w2:=((Keep.of (S:=[]) hb1).trans (kJ hg2) (fun s hs=>.inr (jZ hown1 hs).1)).rA;rw[E9.out] at hown2 ⊢;go_ret;refine⟨q2,k2,rfl,?_,hb2⟩;rw[HER.out];exact hown2
section
variable {mn:Int} {O:List (List Int)} {e:Nat} {p:Po} {k v t:Int} {o:Ob} {d:De}
theorem EU:(mY p).2=8∨(mY p).2=10:=by unfold mY;split<;>simp
theorem EW:(mY p).1.last≤p.last+1:=by
 unfold mY;split
 ·show p.last≤_;omega
 ·exact bZ _
theorem EX:(kI mn O e p k v).2.1≤10∧(kI mn O e p k v).1.last≤p.last+1∧((kI mn O e p k v).2.1=0→(kI mn O e p k v).2.2∈(kI mn O e p k v).1.T):=by
 unfold kI;split
 ·exact⟨sI,by show p.last≤_;omega,fun h=>by simp at h⟩
 split
 ·exact⟨sI,by show p.last≤_;omega,fun h=>by simp at h⟩
 split
 ·have h1:=EU (p:=p);have h2:=EW (p:=p)
  exact⟨by show(mY p).2≤10;omega,h2,fun h=>by have:(mY p).2=0:=h;omega⟩
 split
 ·exact⟨sI,by show p.last≤_;omega,fun _=>aj _ (bL.2 rfl)⟩
 split
 ·have h1:=EU (p:=p.atD (takeD mn O e p.d k v false).1);have h2:=EW (p:=p.atD (takeD mn O e p.d k v false).1)
  exact⟨by show(mY _).2≤10;omega,h2,fun h=>by have:(mY (p.atD (takeD mn O e p.d k v false).1)).2=0:=h;omega⟩
 ·exact⟨sI,by show p.last≤_;omega,fun _=>aj _ (bL.2 rfl)⟩
theorem xE:(lZ e p k o).2≤10∧(lZ e p k o).1.last=p.last:=by
 unfold lZ;split
 ·exact⟨sI,rfl⟩
 split
 ·exact⟨sI,rfl⟩
 split
 ·unfold Cj
  split
  ·exact⟨sI,rfl⟩
  split
  ·exact⟨sI,rfl⟩
  ·exact⟨TR k o,rfl⟩
 ·exact⟨sI,rfl⟩
end
