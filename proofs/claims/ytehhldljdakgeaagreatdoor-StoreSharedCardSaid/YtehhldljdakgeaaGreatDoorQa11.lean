/- Lemmas and contracts for the claim's last text: SIns, SGrow. -/
import Derived.Test.YtehhldljdakgeaaGreatDoorQa01
import Derived.Test.YtehhldljdakgeaaGreatDoorQa10
set_option linter.unusedSimpArgs false
set_option linter.unusedVariables false
set_option maxHeartbeats 16000000
set_option maxRecDepth 100000
namespace Go.Proofs.YtehhldljdakgeaaGreatDoor
open Go.RowKit Go.Maps
attribute [local go_sem ↓] aJ aK
section
open Go.RowKit Go.Lib
theorem Ih {w:World} {b:Nat} {u:Value} (h:jD w b [u]):tZ w (some ⟨b,0,none⟩) [u]:=
 .inr ⟨_,rfl,fun j x hj=>by
  rw[addr_add];cases j with
  |zero=>simp at hj;subst hj;exact h.gC 0
  |succ j=>simp at hj⟩
def uW (B:Nat) (v:Value) (us:List Value) (i:Nat) (u:Value) (w:World) (e:Ending) (w':World):Prop:=
 ∃q k,e= .returned (.slice q (us.length+1) k)∧w'.ownsRow B 211 1 (.slice q (us.length+1) k) (us.length+1) (us.take i++u::us.drop i)∧Keep (jF v) w w'∧∀y∈jF (.slice q (us.length+1) k),y∈jF v∨w.heap.size≤y
theorem xu:(Tryz.prog.info? 211).map (·.size)=some 1:=kR
theorem ins_end {B:Nat} (v:Value) (us:List Value) (u:Value) (vb:Nat) (w:World) (hown:w.ownsRow B 211 1 v us.length us) (hu1:u.oneCell'=true) (hl:us.length≤2000) (hv:jD w vb [u]) (hB:B≤w.heap.size):
 Calls Tryz.prog 139 #[v,.int .i64 us.length,.slice (some ⟨vb,0,none⟩) 1 1] w (uW B v us us.length u w):=by
 have hsrc:tZ w (some ⟨vb,0,none⟩) [u]:=Ih hv;have HS:=ah hsrc;have HO:=ah hown;have HU:=ah hu1;have FIN:Hid (∀q k w',w'.ownsRow B 211 1 (.slice q (us++[u]).length k) (us++[u]).length (us++[u])→w.grownBy w' v.ownBlock→((Value.slice q (us++[u]).length k).ownBlock=v.ownBlock∨(Value.slice q (us++[u]).length k).ownBlock=some w.heap.size)→uW B v us us.length u w (.returned (.slice q (us.length+1) k)) w'):=fun q k w' h1 h2 h3=>by
  have e1:(us++[u]).length=us.length+1:=sI;rw[e1] at h1 h3;refine⟨q,k,rfl,by simpa using h1,jS h2,ou h3⟩
 obtain⟨p,n,k,rfl,hpn⟩: ∃p n k,v= .slice p n k∧(n=us.length∧n≤k∧k≤maxLen):=by
  rcases hown.2 with⟨rfl,h3⟩|⟨g,cap,cur,rfl,hg,hh,hcap,hmax,_⟩
  ·exact⟨none,0,0,rfl,h3.symm,aH _,by unfold maxLen;omega⟩
  ·exact⟨_,_,_,rfl,rfl,hcap,hmax⟩
 obtain⟨rfl,hk,hm⟩:=hpn;unfold maxLen at hm;clear hsrc hown hu1 hv;have n0:(0:Int)≤(us.length:Int):=om;obtain⟨r,hr⟩: ∃r:Value,r= .slice p us.length k:=⟨_,rfl⟩;go_enter Tryz.func139,Tryz.ntmps139;go_wp2_with (first|(at_builtin;refine qj (base:=B) (v:=.slice p us.length k) (us:=us) (ms:=[u]) (p:=some ⟨vb,0,none⟩) elSlab rfl (.tmp 23) (.tmp 24) rf rf 1 rf rfl HO.out HS.out (by intro x hx;simp at hx;subst hx;exact HU.out) (by simp;omega) hB ?_;intro q2 k2 w2 hown2 hg2 ho2));all_goals
  have HF:=ah (FIN.out q2 k2 w2 hown2 hg2 ho2);clear hown2 hg2 ho2 FIN;go_wp2;go_ret;first
  |(simpa using HF.out;done)
  |(have hkk:k=us.length:=by assumption
    subst hkk;simpa using HF.out)
theorem TR {α:Type} {rl us:List α} {u:α} {i:Nat} (hi:i≤us.length) (hl:us.length+1≤rl.length) (ht:rl.take i=us.take i):
 ((((rl.take i++[u]++rl.drop (i+1)).take (i+1)++us.drop i++(rl.take i++[u]++rl.drop (i+1)).drop (i+1+(us.drop i).length))).take (us.length+1))=us.take i++u::us.drop i:=by
 have e1:(rl.take i++[u]++rl.drop (i+1)).take (i+1)=us.take i++[u]:=by
  rw[cB (by simp;omega),dP (by simp;omega),ht]
 rw[e1];rw[cB (by simp;omega),dP (by simp;omega)];simp
theorem TU {α:Type} {us rest:List α} {u:α} {i:Nat} (hi:i≤us.length) (hl:1≤rest.length):
 (((((us++rest).take (i+1)++us.drop i++(us++rest).drop (i+1+(us.drop i).length)).take i++[u]++((us++rest).take (i+1)++us.drop i++(us++rest).drop (i+1+(us.drop i).length)).drop (i+[u].length))).take (us.length+1))=us.take i++u::us.drop i:=by
 have e1:((us++rest).take (i+1)++us.drop i++(us++rest).drop (i+1+(us.drop i).length)).take i=us.take i:=by
  rw[bS,cB (by simp;omega),List.take_take,Nat.min_eq_left om,cB hi]
 have e2:((us++rest).take (i+1)++us.drop i++(us++rest).drop (i+1+(us.drop i).length)).drop (i+[u].length)=us.drop i++(us++rest).drop (i+1+(us.drop i).length):=by
  rw[bS,List.drop_append_of_le_length (by simp;omega),fQ (by simp;omega)];simp
 rw[e1,e2];rw[←bS,cB (by simp;omega),dP (by simp;omega)];simp
theorem ins_room {B:Nat} (g k i:Nat) (us rest:List Value) (u:Value) (vb:Nat) (w:World) (hR:Row1 w g 211 (us++rest)) (hk:(us++rest).length=k) (hm:k≤maxLen) (hBg:B≤g) (hr1:1≤rest.length) (hi:i<us.length) (h1: ∀x∈us,x.oneCell'=true) (hu1:u.oneCell'=true) (hl:us.length≤2000) (hv:Row1 w vb 211 [u]) (hne:vb≠g):
 Calls Tryz.prog 139 #[.slice (some ⟨g,0,none⟩) us.length k,.int .i64 i,.slice (some ⟨vb,0,none⟩) 1 1] w (uW B (.slice (some ⟨g,0,none⟩) us.length k) us i u w):=by
 obtain⟨n,hn⟩:=eY us.length;have hrk:n+1≤k:=by rw[←hk,hn];simp;omega
 have hdl:(us.drop i).length=n-i:=by rw[bY,hn]
 have LR:=hR.loc;have hsp: ∀j,j<n+1→(w.cell? ⟨g,j,none⟩).isSome=true:=fun j hj=>by
  obtain⟨x,hx⟩: ∃x,(us++rest)[j]?=some x:=⟨(us++rest)[j]' om,aA _⟩;rw[LR.c j x hx];rfl
 have hfz: ∀j,j<n+1→w.frozen? ⟨g,j,none⟩=false:=fun j hj=>LR.f j om
 have hov: ∀lb cb,(callFunc 167 #[.slice (some ⟨vb,0,none⟩) 1 1,.slice (some ⟨g,i+1,none⟩) lb cb]).run Tryz.prog w= .ok (.value (.bool false)) w:=fun lb cb=>by
  obtain⟨cv,hv1,hv2⟩:=hv;obtain⟨cg,hg1,hg2⟩:=hR
  have kg:cg.size≠0:=by have:cg.toList.length=k:=by rw[hg2];exact hk
                        simp at this;omega
  rw[run_callFunc_extern Tryz.func167 kR kR kR (e:=Extern.SlicesOverlaps.overlaps #[184,184] #[4]) kR,
   Lib.run_overlaps_apart w 184 4 211 fH 1 (fun _=>kR) ⟨vb,0,none⟩ ⟨g,i+1,none⟩ 1 1 lb cb hne 211 211 cv.size cg.size (by simp only[World.shape?,hv1]) (by simp only[World.shape?,hg1]) kg (by simp only[World.frozen?,hv1];simp) (by simp only[World.frozen?,hv1];simp)]
  rfl
 have hcp1: ∀ty dc sc,(Builtin.copy_ #[184,184] ty #[.slice (some ⟨g,i+1,none⟩) (n-i) dc,.slice (some ⟨g,i,none⟩) (n+1-i) sc]).run Tryz.prog w.drew= .ok (goInt (us.drop i).length) (w.drew.setCells g (i+1) (us.drop i)):=fun ty dc sc=>
  run_copy_cells w.drew _ _ ty 211 g (i+1) (n-i) dc ⟨g,i,none⟩ (n+1-i) sc (us.drop i) fH xu (by rw[hdl];simp only[Nat.min_def];split<;>omega)
   (fun j v hj=>by
     rw[addr_add];rw[cK] at hj;exact LR.c (i+j) v (by rw[bG (au.1 hj).1];exact hj))
   (fun j hj=>by rw[hdl] at hj;exact hsp _ om) (fun j hj=>by rw[hdl] at hj;exact hfz _ om) (fun v hv=>h1 v (fJ hv))
 obtain⟨W1,hW1⟩:=eY (w.drew.setCells g (i+1) (us.drop i));have R1:=hR.drew.sets (us.drop i) (i+1) (by rw[hdl,hk];omega);rw[←hW1] at R1;have L1:=R1.loc;have l1:((us++rest).take (i+1)++us.drop i++(us++rest).drop (i+1+(us.drop i).length)).length=k:=by simp only[aV,bC,bY] at hk ⊢;omega
 have V1:Row1 W1 vb 211 [u]:=by rw[hW1];exact hv.drew.keep (mZ (g:=g) (S:=[g]) _ _ (Keep.refl _ _) (.inl sI)) (by simpa using hne)
 have hcp2: ∀ty dc,(Builtin.copy_ #[184,184] ty #[.slice (some ⟨g,i,none⟩) (n+1-i) dc,.slice (some ⟨vb,0,none⟩) 1 1]).run Tryz.prog W1= .ok (goInt [u].length) (W1.setCells g i [u]):=fun ty dc=>
  run_copy_cells W1 _ _ ty 211 g i (n+1-i) dc ⟨vb,0,none⟩ 1 1 [u] fH xu (by simp only[Nat.min_def,cu];split<;>omega)
   (fun j v hj=>by rw[addr_add,bH];exact V1.loc.c j v hj)
   (fun j hj=>by
     simp at hj;subst hj;obtain⟨x,hx⟩: ∃x,((us++rest).take (i+1)++us.drop i++(us++rest).drop (i+1+(us.drop i).length))[i+0]?=some x:=⟨_,aA (by rw[l1];omega)⟩;rw[L1.c _ x hx];rfl) (fun j hj=>by simp at hj;subst hj;exact L1.f _ (by rw[l1];omega)) (fun v hv=>by simp at hv;subst hv;exact hu1)
 have FIN:Hid (uW B (.slice (some ⟨g,0,none⟩) n k) us i u w (.returned (.slice (some ⟨g,0,none⟩) (n+1) k)) (W1.setCells g i [u])):=by
  have R2:=R1.sets [u] i (by rw[l1];simp;omega);have hlen:(((us++rest).take (i+1)++us.drop i++(us++rest).drop (i+1+(us.drop i).length)).take i++[u]++((us++rest).take (i+1)++us.drop i++(us++rest).drop (i+1+(us.drop i).length)).drop (i+[u].length)).length=k:=by simp only[aV,bC,bY,cu] at l1 ⊢;omega
  have ow:=R2.own hBg (n:=n+1) (by rw[hlen];omega) (by rw[hlen];exact hm);rw[hlen] at ow;have e2:=TU (u:=u) (jr hi) hr1;rw[←hn] at e2;rw[e2] at ow;refine⟨some ⟨g,0,none⟩,k,by rw[hn],by rw[←hn];exact ow,?_,fun y hy=>.inl (by simpa[jF,Value.ownBlock] using hy)⟩;rw[hW1];exact mZ _ _ (mZ _ _ (Keep.refl _ _).drew (.inl (by simp[jF,Value.ownBlock]))) (.inl (by simp[jF,Value.ownBlock]))
 have hin:(i:Int)<(n:Int):=om;have hi0:(0:Int)≤(i:Int):=om;have hz2: ¬((i:Int)=(n:Int)):=om;have hroom: ¬((k:Int)<(n:Int)+1):=om;have hw1:IntKind.i64.wrap ((i:Int)+1)=(i:Int)+1:=bB _ om;have htn:((i:Int)+1).toNat=i+1:=om;have hb1:(0:Int)≤(i:Int)+1:=om;have hb2: ¬(k=i+1):=om;have hb3: ¬(k=i):=om;have hb4:(i:Int)+1≤(n:Int)+1:=om;have hb5:(i:Int)≤(n:Int)+1:=om;have hl':n≤2000:=om;have hi':i≤n:=om;have HN:=ah hn;rw[←hn];unfold maxLen at hm;have mixed:Tryz.prog.follows .mixedOrders=true:=kR;clear hR LR R1 L1 V1 hsp hfz hv hdl l1 hk hn hi hl;rw[←hW1] at hcp1;clear hW1;go_enter Tryz.func139,Tryz.ntmps139;go_wp2_with (simp only[hov]);go_region_law (refine step_copy_runI rfl _ _ 184 184 rfl _ _ (by simp[Act.eval,Act.put]) (by simp[Act.eval,Act.put]) (hcp1 _ _ _) ?_)
 go_wp2_with (at_builtin;refine wpList_copy_runI _ rfl _ _ 184 184 rfl _ _ rfl rfl (hcp2 _ _) ?_);go_ret;exact FIN.out
theorem ins_grow {B:Nat} (g i:Nat) (us:List Value) (u:Value) (vb:Nat) (w:World) (hR:Row1 w g 211 us) (hB:B≤w.heap.size) (hi:i<us.length) (h1: ∀x∈us,x.oneCell'=true) (hu1:u.oneCell'=true) (hl:us.length≤2000) (hv:Row1 w vb 211 [u]) (hne:vb≠g):
 Calls Tryz.prog 139 #[.slice (some ⟨g,0,none⟩) us.length us.length,.int .i64 i,.slice (some ⟨vb,0,none⟩) 1 1] w (uW B (.slice (some ⟨g,0,none⟩) us.length us.length) us i u w):=by
 obtain⟨n,hn⟩:=eY us.length;have hdl:(us.drop i).length=n-i:=by rw[bY,hn]
 have htl:(us.take i).length=i:=by rw[bC];omega
 have LR:=hR.loc;have hbw:g<w.heap.size:=hR.lt;have hvw:vb<w.heap.size:=hv.lt;obtain⟨i0,hi0,hz0,hzs,hzb⟩:=info_parts (P:=Tryz.prog) (e:=211) (z:=.pointer none) (size:=1) (bytes:=8) kR;have hkk:(n:Int)+1-(i:Int)=((n+1-i:Nat):Int):=om;have hik:i+(n+1-i)=n+1:=om;have hold:(Builtin.firstCells i0.size i (.slice (some ⟨g,0,none⟩) i n)).run Tryz.prog w.drew= .ok (us.take i).toArray w.drew:=by
  rw[hzs];exact run_firstCells_some w.drew 1 i ⟨g,0,none⟩ i n (us.take i) (by rw[htl];omega) (fun j v hj=>by
   rw[addr_add,bH];rw[eO] at hj;split at hj
   ·exact LR.c j v hj
   ·cases hj)
 have hrz: ∀ty,(Builtin.append_ #[184,3] ty #[.slice (some ⟨g,0,none⟩) i n,.int .i64 ((n:Int)+1-(i:Int))]).run Tryz.prog w=
  .ok (.slice (some ⟨w.heap.size,0,none⟩) (n+1) (grownCap w (n+1) n 211)) (w.drew.alloc (.cells ((us.take i).toArray++Builtin.zeroCells (Value.pointer none).cells (n+1-i)++Builtin.zeroCells (Value.pointer none).cells (grownCap w (n+1) n 211-(n+1))) 211)):=fun ty=>by
  have h:=Lib.run_append_grow_zeros w 184 3 ty 211 i0 _ .i64 .i64 fH bE hi0 hz0 (some ⟨g,0,none⟩) i n (us.take i) hold (n+1-i) om om om om (by rw[hzb];omega) (by rw[hzb,hik];exact growslice_fits om om);rw[hik] at h;rw[hkk];exact h
 obtain⟨G,hG⟩:=eY (grownCap w (n+1) n 211);obtain⟨ROW,hROW⟩: ∃ROW:Array Value,ROW=(us.take i).toArray++Builtin.zeroCells (Value.pointer none).cells (n+1-i)++Builtin.zeroCells (Value.pointer none).cells (G-(n+1)):=⟨_,rfl⟩;rw[←hG] at hrz;rw[←hROW] at hrz;have hGn:n+1≤G:=by rw[hG];exact grownCap_ge w _ _ _
 have hGm:G≤maxLen:=by rw[hG];exact grownCap_le_maxLen w (n+1) n 211 (by unfold maxLen;omega)
 have hRl:ROW.toList.length=G:=by
  rw[hROW];simp[Builtin.zeroCells,Value.cells];omega
 have hRt:ROW.toList.take i=us.take i:=by
  rw[hROW];simp only[Array.toList_append,bS];rw[cB (by rw[bC];omega)];simp[List.take_take]
 obtain⟨W1,hW1⟩:=eY (w.drew.alloc (.cells ROW 211));rw[←hW1] at hrz;have R1:Row1 W1 w.heap.size 211 ROW.toList:=⟨ROW,by rw[hW1];exact World.alloc_heap_new w.drew _,rfl⟩;have K1:Keep [] w W1:=by rw[hW1];exact(Keep.refl [] w).drew.alloc _
 have V1:Row1 W1 vb 211 [u]:=hv.keep K1 sI;have Q1:Row1 W1 g 211 us:=hR.keep K1 sI;have D1: ∀(W:World) (b:Nat) (cs:List Value),W.heap=W1.heap→Row1 W1 b 211 cs→Row1 W b 211 cs:=fun W b cs e h=>by
  obtain⟨cur,h1,h2⟩:=h;exact⟨cur,by rw[e];exact h1,h2⟩
 have hcpA: ∀(W:World),W.heap=W1.heap→∀ty dc,(Builtin.copy_ #[184,184] ty #[.slice (some ⟨w.heap.size,i,none⟩) (n+1-i) dc,.slice (some ⟨vb,0,none⟩) 1 1]).run Tryz.prog W= .ok (goInt [u].length) (W.setCells w.heap.size i [u]):=fun W hW ty dc=>
  run_copy_cells W _ _ ty 211 w.heap.size i (n+1-i) dc ⟨vb,0,none⟩ 1 1 [u] fH xu (by simp only[Nat.min_def,cu];split<;>omega)
   (fun j v hj=>by rw[addr_add,bH];exact(D1 W _ _ hW V1).loc.c j v hj)
   (fun j hj=>by
     simp at hj;subst hj;obtain⟨x,hx⟩: ∃x,ROW.toList[i+0]?=some x:=⟨_,aA (by rw[hRl];omega)⟩;rw[(D1 W _ _ hW R1).loc.c _ x hx];rfl) (fun j hj=>by simp at hj;subst hj;exact(D1 W _ _ hW R1).loc.f _ (by rw[hRl];omega)) (fun v hv=>by simp at hv;subst hv;exact hu1)
 obtain⟨W2,hW2⟩:=eY (W1.drew.setCells w.heap.size i [u]);have R2:=R1.drew.sets [u] i (by rw[hRl];simp;omega);rw[←hW2] at R2;have l2:(ROW.toList.take i++[u]++ROW.toList.drop (i+[u].length)).length=G:=by simp only[aV,bC,bY,cu];omega
 have Q2:Row1 W2 g 211 us:=by rw[hW2];exact Q1.drew.keep (mZ (g:=w.heap.size) (S:=[w.heap.size]) _ _ (Keep.refl _ _) (.inl sI)) (by simp;omega)
 have D2: ∀(W:World) (b:Nat) (cs:List Value),W.heap=W2.heap→Row1 W2 b 211 cs→Row1 W b 211 cs:=fun W b cs e h=>by
  obtain⟨cur,h1,h2⟩:=h;exact⟨cur,by rw[e];exact h1,h2⟩
 have hcpB: ∀(W:World),W.heap=W2.heap→∀ty dc sc,(Builtin.copy_ #[184,184] ty #[.slice (some ⟨w.heap.size,i+1,none⟩) (n-i) dc,.slice (some ⟨g,i,none⟩) (n-i) sc]).run Tryz.prog W= .ok (goInt (us.drop i).length) (W.setCells w.heap.size (i+1) (us.drop i)):=fun W hW ty dc sc=>
  run_copy_cells W _ _ ty 211 w.heap.size (i+1) (n-i) dc ⟨g,i,none⟩ (n-i) sc (us.drop i) fH xu (by rw[hdl];simp only[Nat.min_def];split<;>omega)
   (fun j v hj=>by
     rw[addr_add];exact(D2 W _ _ hW Q2).loc.c (i+j) v (by rwa [cK] at hj))
   (fun j hj=>by
     rw[hdl] at hj;obtain⟨x,hx⟩: ∃x,(ROW.toList.take i++[u]++ROW.toList.drop (i+[u].length))[i+1+j]?=some x:=⟨_,aA (by rw[l2];omega)⟩;rw[(D2 W _ _ hW R2).loc.c _ x hx];rfl)
   (fun j hj=>(D2 W _ _ hW R2).loc.f _ (by rw[hdl] at hj;rw[l2];omega)) (fun v hv=>h1 v (fJ hv))
 have K2:Keep [] w W2:=by rw[hW2];exact mZ _ _ K1.drew (.inr (aH _))
 have FIN:Hid (∀W:World,W.heap=W2.heap→Keep [] w W→uW B (.slice (some ⟨g,0,none⟩) n n) us i u w (.returned (.slice (some ⟨w.heap.size,0,none⟩) (n+1) G)) (W.setCells w.heap.size (i+1) (us.drop i))):=fun W hW hWK=>by
  have R3:=(D2 W _ _ hW R2).sets (us.drop i) (i+1) (by rw[hdl,l2];omega);have hlen:((ROW.toList.take i++[u]++ROW.toList.drop (i+[u].length)).take (i+1)++us.drop i++(ROW.toList.take i++[u]++ROW.toList.drop (i+[u].length)).drop (i+1+(us.drop i).length)).length=G:=by simp only[aV,bC,bY,cu] at l2 hdl ⊢;omega
  have ow:=R3.own hB (n:=n+1) (by rw[hlen];exact hGn) (by rw[hlen];exact hGm);rw[hlen] at ow;have e2:=TR (u:=u) (rl:=ROW.toList) (jr hi) (by rw[hRl,←hn];exact hGn) hRt;rw[←hn] at e2;rw[show(ROW.toList.take i++[u]++ROW.toList.drop (i+[u].length))=(ROW.toList.take i++[u]++ROW.toList.drop (i+1)) from rfl] at ow;rw[e2] at ow;have K3:Keep [] w (W.setCells w.heap.size (i+1) (us.drop i)):=mZ _ _ hWK (.inr (aH _));refine⟨some ⟨w.heap.size,0,none⟩,G,by rw[←hn],by rw[←hn];exact ow,K3.wide,fun y hy=>.inr (by simp[jF,Value.ownBlock] at hy;omega)⟩
 have HW2:=ah hW2;have HK2:=ah K2;have mixed:Tryz.prog.follows .mixedOrders=true:=kR;have hin:(i:Int)<(n:Int):=om;have hi0:(0:Int)≤(i:Int):=om;have hz2: ¬((i:Int)=(n:Int)):=om;have hroom:(n:Int)<(n:Int)+1:=om;have hw1:IntKind.i64.wrap ((i:Int)+1)=(i:Int)+1:=bB _ om;have htn:((i:Int)+1).toNat=i+1:=om;have hb1:(0:Int)≤(i:Int)+1:=om;have hGi: ¬(G=i):=om;have hGim: ¬(G=i+1):=om;have hci: ¬(n=i):=om;have hb3:(i:Int)≤(n:Int):=om;have hG63:G≤9223372036854775807:=by unfold maxLen at hGm;omega
 have hl':n≤2000:=om;have hi':i≤n:=om;rw[←hn];clear hR hkk hik hold hROW hG hRl hRt R1 K1 V1 Q1 D1 R2 l2 Q2 D2 K2 hW2 hW1 hGm hdl htl LR hv hn hi hl;go_enter Tryz.func139,Tryz.ntmps139;go_wp2_with (first
  |(at_builtin;refine Lib.wpList_append_run _ rfl _ _ _ _ rfl _ _ rfl rfl _ _ (hrz _) ?_)
  |(at_builtin;refine wpList_copy_runI _ rfl _ _ 184 184 rfl _ _ rfl rfl (hcpA _ rfl _ _) ?_)
  |(at_builtin;refine wpList_copy_runI _ rfl _ _ 184 184 rfl _ _ rfl rfl (hcpB _ (by rw[HW2.out];rfl) _ _ _) ?_))
 go_region_law (refine step_copy_runI rfl _ _ 184 184 rfl (.slice (some ⟨w.heap.size,i+1,none⟩) (n-i) (G-(i+1))) (.slice (some ⟨g,i,none⟩) (n-i) (n-i)) (by simp[Act.eval,Act.put]) (by simp[Act.eval,Act.put]) (hcpB _ (by rw[HW2.out];rfl) 3 (G-(i+1)) (n-i)) ?_)
 go_wp2;go_ret;exact FIN.out _ (by rw[HW2.out];rfl) (by have q:=HK2.out;rw[HW2.out] at q;first|exact q|exact q.drew)
theorem sins_ok {B:Nat} (v:Value) (i:Nat) (us:List Value) (u:Value) (vb:Nat) (w:World) (hown:w.ownsRow B 211 1 v us.length us) (hi:i≤us.length) (h1: ∀x∈us,x.oneCell'=true) (hu1:u.oneCell'=true) (hl:us.length≤2000) (hv:Row1 w vb 211 [u]) (hne:vb∉jF v) (hB:B≤w.heap.size):
 Calls Tryz.prog 139 #[v,.int .i64 i,.slice (some ⟨vb,0,none⟩) 1 1] w (uW B v us i u w):=by
 by_cases e:i=us.length
 ·subst e
  exact ins_end v us u vb w hown hu1 hl hv.loc hB
 ·have ho:=hown
  rcases hown.2 with⟨rfl,h3⟩|⟨g,cap,cur,rfl,hg,hh,hcap,hmax,_⟩
  ·omega
  ·obtain⟨rest,R,r1,r2,r3,r4,r5⟩:=yX ho
   have hne':vb≠g:=fun q=>hne (by rw[nQ,q];rfl)
   cases rest with
   |nil=>
    rw[dB] at R r1;obtain rfl:cap=us.length:=r1.symm;exact ins_grow g i us u vb w R hB om h1 hu1 hl hv hne'
   |cons r rs=>exact ins_room g cap i us (r::rs) u vb w R r1 r4 r5 sI om h1 hu1 hl hv hne'
end
theorem snew_ok (pz e:Nat) (w:World) (e1:1≤e) (e2:e≤64):
 Calls Tryz.prog 46 #[.pointer (some ⟨pz,0,none⟩),.int .i64 e] w fun r w'=>r= .returned (.tuple #[.pointer (some ⟨w.heap.size,0,none⟩),.nilIface])∧w'=w.alloc (.cells #[.pointer (some ⟨pz,0,none⟩),.int .i64 e,.slice none 0 0] 186):=by
 have d1:decide ((e:Int)<1)=false:=decide_eq_false om;have d2:decide ((64:Int)<e)=false:=decide_eq_false om;have d3:decide (64<e)=false:=decide_eq_false om;go_enter Tryz.func46,Tryz.ntmps46;go_wp2;go_ret2
 exact⟨rfl,rfl⟩
section
variable {B:Nat} {ev:Nat→Addr} {pc pz e:Nat} {mn lw hi:Int} {O:List (List Int)} {X:List Nat} {vs:Value} {A:SA} {c:Ca} {w:World}
theorem cnode_ok (h:CS B w pc pz mn lw hi O e X vs A c) (v:Nat) (hv:v<c.L.length):
 Calls Tryz.prog 109 #[.pointer (some ⟨pc,0,none⟩),.int .i64 v] w fun r w'=>r= .returned .nilIface∧Below w.heap.size w w':=by
 obtain⟨x,hx⟩: ∃x,c.L[v]?=some x:=⟨c.L[v],aA _⟩;have FR:=ah (NM pz mn lw hi O c.L v x w h.z.toB hx);have c0:=h.ch.c.gC 0;have cl:=h.ch.c.lt;clear h hx;go_enter Tryz.func109,Tryz.ntmps109;go_wp2_with fail;refine FR.out.mono ?_;rintro r w1 ⟨rfl,hb1⟩;go_wp2;go_ret;exact⟨rfl,hb1⟩
theorem TW (hE:yT B ev w) (h:CS B w pc pz mn lw hi O e X vs A c) (v:Int) (hv:v<0∨(c.L.length:Int)≤v):
 Calls Tryz.prog 109 #[.pointer (some ⟨pc,0,none⟩),.int .i64 v] w fun r w'=>r= .returned (jW ev 2)∧Below w.heap.size w w':=by
 have FR:=ah (Fp pz mn lw hi O c.L v w hE h.z.toB h.l0 hv);have c0:=h.ch.c.gC 0;have cl:=h.ch.c.lt;have e1:jW ev 2= .iface 336 (.pointer (some (ev 2))):=rfl;rw[e1] at FR ⊢;clear h hv hE e1;go_enter Tryz.func109,Tryz.ntmps109;go_wp2_with fail;refine FR.out.mono ?_;rintro r w1 ⟨rfl,hb1⟩;go_wp2;go_ret;exact⟨rfl,hb1⟩
def NV (B:Nat) (ev:Nat→Addr) (pc pz:Nat) (mn lw hi:Int) (O:List (List Int)) (e:Nat) (X:List Nat) (vs:Value) (A:SA) (c:Ca) (w:World) (L':List Nd) (q:Nat) (r:Ending) (w':World):Prop:=
 r= .returned (.tuple #[.pointer none,jW ev q])∧CS B w' pc pz mn lw hi O e X vs A ⟨L',c.C⟩∧Keep (ys c.L) w w'
theorem cgrow_no (v:Int) (u:Bool) (hE:yL B ev w) (h:CS B w pc pz mn lw hi O e X vs A c) (L':List Nd) (q:Nat) (nd pg k:Int) (ht:kU mn O c.L v 0 u=(L',q+1,(nd,pg,k))):
 Calls Tryz.prog 110 #[.pointer (some ⟨pc,0,none⟩),.int .i64 v,.bool u] w (NV B ev pc pz mn lw hi O e X vs A c w L' (q+1)):=by
 have TK:=Fu pz mn lw hi O c.L v 0 u w hE h.z.toB h.l0;have SZ:=ah (rO mn O c.L v 0 u);rw[ht] at TK SZ;have HT:=ah TK;have HH:=ah h;have c0:=h.ch.c.gC 0;have cl:=h.ch.c.lt;obtain⟨vv,hvv⟩:=eY (ev (q+1));have e1:jW ev (q+1)= .iface 336 (.pointer (some vv)):=by rw[hvv];rfl
 unfold NV;rw[e1];have E1:=ah e1;clear h TK e1 hvv ht;go_enter Tryz.func110,Tryz.ntmps110;go_wp2_with fail;refine HT.out.mono ?_;rintro r w1 ⟨hr,hz1,hk1⟩;simp only[E1.out,plV] at hr;subst hr;have H1:=ah (HH.out.zone hk1 hz1 SZ.out);have HK1:=ah hk1;have z1:=hk1.size;clear hz1 hk1;go_wp2;go_ret2
 exact⟨rfl,H1.out.below jK,HK1.out.step jK⟩
theorem Ai {P:Program} {ops:Array Oper} {o:Oper} {a:Act} {w:World} {K:Act→World→Prop} {Q:Exit→Act→World→Prop} {E:Prop}
 (hg:o.guard=none) (t:TypeId) (x y:Operand) (hop:o.op=Op.makeSlice t x y) (u v:Value) (hx:a.eval x=u) (hy:a.eval y=v) {v':Value} {w':World} (hr:(Instr.makeSlice t u v).run P w= .ok v' w') (hK:K (a.put o.dst v') w'):
 if Region.wanted o (yielded ops a.tmps)=true then Oper.wp P o a w K Q else E:=by
 have hw:Region.wanted o (yielded ops a.tmps)=true:=by simp[Region.wanted,hg]
 rw[if_pos hw];unfold Oper.wp;simp[execOp,hop,hx,hy,hr,Result.andThen];exact hK
theorem CW (e:Nat):madeCells (Value.bool false).cells (jR e)=(bools (jU e)).toArray:=by
 unfold madeCells bools jU;apply Array.ext
 ·simp[Value.cells]
 ·intro i h1 h2
  simp[Value.cells,Nat.mod_one]
def GrowYes (B:Nat) (pc pz:Nat) (mn lw hi:Int) (O:List (List Int)) (e:Nat) (X:List Nat) (vs:Value) (A:SA) (c:Ca) (w:World) (L':List Nd) (s:Sl) (r:Ending) (w':World):Prop:=
 ∃p X' v' A',r= .returned (.tuple #[.pointer (some ⟨p.1,0,none⟩),.nilIface])∧CS B w' pc pz mn lw hi O e X' v' A' ⟨L',uJ c.C s⟩∧A'[uF s.nd s.pg c.C]?=some p∧Keep (cay pc vs A++ys c.L) w w'∧(∀x∈X,x∈X')∧(∀x∈X',x∈X∨w.heap.size≤x)∧∀y∈cay pc v' A',y∈cay pc vs A∨w.heap.size≤y
theorem TY (v:Int) (u:Bool) (hE:yL B ev w) (h:CS B w pc pz mn lw hi O e X vs A c) (hI:tq e c) (hB:B≤w.heap.size) (L':List Nd) (nd pg:Int) (ht:kU mn O c.L v 0 u=(L',0,(nd,pg,0))):
 Calls Tryz.prog 110 #[.pointer (some ⟨pc,0,none⟩),.int .i64 v,.bool u] w (GrowYes B pc pz mn lw hi O e X vs A c w L' ⟨nd,pg,jU e⟩):=by
 obtain⟨qv,kv,evs,_⟩:=h.ch.form;subst evs;have TK:=Fu pz mn lw hi O c.L v 0 u w hE h.z.toB h.l0;have SZ:=ah (rO mn O c.L v 0 u);rw[ht] at TK SZ;have HT:=ah TK;have HH:=ah h;have c0:=h.ch.c.gC 0;have cl:=h.ch.c.lt;have HI:=ah hI;have e1:=hI.e1;have e2:=hI.e2;clear h TK ht hI;go_enter Tryz.func110,Tryz.ntmps110;go_wp2_with fail;refine HT.out.mono ?_;rintro r w1 ⟨hr,hz1,hk1⟩;simp only[plV,jW] at hr;subst hr;have H1:=HH.out.zone hk1 hz1 SZ.out;have HK1:=ah hk1;have z1:=hk1.size;have k1:=H1.ch.c.gC 1;have k2:=H1.ch.c.gC 2;have kl:=H1.ch.c.lt;have H1':=ah H1;clear hz1 hk1 H1 c0 cl;go_wp2_with fail;obtain⟨W2,hW2⟩:=eY (w1.alloc (.cells #[.int .i64 nd,.int .i64 pg,.int .i64 0] 215));rw[←hW2];have P2:jD W2 w1.heap.size [.int .i64 nd,.int .i64 pg,.int .i64 0]:=by rw[hW2];exact jD.mk_ w1 [.int .i64 nd,.int .i64 pg,.int .i64 0] 215 rfl
 have b2:Below w1.heap.size w1 W2:=by rw[hW2];exact jK
 have s2:W2.heap.size=w1.heap.size+1:=by rw[hW2];simp
 clear hW2;have p0:=P2.gC 0;have p1:=P2.gC 1;have p2:=P2.gC 2;have pl:=P2.lt;have g1:W2.cell? ⟨pc,1,none⟩=some (.int .i64 e):=(b2.cell (p:=⟨pc,1,none⟩) kl).trans k1;have g2:W2.cell? ⟨pc,2,none⟩=some (.slice qv c.C.length kv):=(b2.cell (p:=⟨pc,2,none⟩) kl).trans k2;have gl:pc<W2.heap.size:=om;have en0: ¬((e:Int)=0):=om;have en1: ¬(e=0):=om;have hq0:(64:Int) / (e:Int)=(jR e:Int):=by unfold jR;rw[Int.natCast_ediv];rfl
 have hq:(64:Int).tdiv (e:Int)=(jR e:Int):=by rw[fB om];exact hq0
 have r64:jR e≤64:=by unfold jR;exact dN _ _
 have hwr:IntKind.i64.wrap ((jR e:Nat):Int)=(jR e:Int):=bB _ om;have MK:Hid (∀W:World,(Instr.makeSlice 216 (.int .i64 (jR e:Nat)) (.int .i64 (jR e:Nat))).run Tryz.prog W= .ok (.slice (some ⟨W.heap.size,0,none⟩) (jR e) (jR e)) (W.alloc (.cells (bools (jU e)).toArray 4))):=fun W=>by
  obtain⟨i0,hi0,hz0,hzs,hzb⟩:=info_parts (P:=Tryz.prog) (e:=4) (z:=.bool false) (size:=1) (bytes:=1) kR;have:=run_make (P:=Tryz.prog) W 216 4 i0 _ Tryz.underlying216 hi0 hz0 .i64 .i64 (jR e:Nat) (jR e:Nat) om (cO _) (by rw[hzb];omega) om;rw[this,hzs];simp only[bQ,Nat.mul_one];have em:madeCells (Value.bool false).cells (jR e)=(bools (jU e)).toArray:=CW e;rw[em]
 refine jN (S:=(fun w'=>w'.cell? ⟨w1.heap.size,0,none⟩=some (.int .i64 nd)∧w'.cell? ⟨w1.heap.size,1,none⟩=some (.int .i64 pg)∧w'.cell? ⟨w1.heap.size,2,none⟩=some (.int .i64 0)∧w'.cell? ⟨pc,1,none⟩=some (.int .i64 e))) 9 #[false,false,false,false,false,false,false,false,false] rfl kR kR (by(try dsimp only);go_keep) (fun hHeld=> ?_);simp only[aQ,aW];refine tk 0 ?_;try simp only[Act.put,pA,pZ,pS]
 refine tk 1 ?_;try simp only[Act.put,pA,pZ,pS]
 refine tk 2 ?_;try simp only[Act.put,pA,pZ,pS]
 refine tk 3 ?_;try simp only[Act.put,pA,pZ,pS]
 refine tk 4 ?_;try simp only[Act.put,pA,pZ,pS]
 refine tk 5 ?_;try simp only[Act.put,pA,pZ,pS]
 refine wpAnyH_ready (rs:=[6]) kR sI ?_;refine aR (jH rfl) (fun K hK=> ?_) aX;refine Ai rf 216 (.tmp 31) (.tmp 31) rf _ _ rf rf (MK.out _) ?_;refine hK.out _ _ (by(try dsimp only);go_keep) (fun hHeld=> ?_);clear hK K;try simp only[Act.put,pA,pZ,pS]
 refine tk 7 ?_;try simp only[Act.put,pA,pZ,pS]
 refine wpAnyH_ready (rs:=[8]) kR sI ?_;refine aR (jH rfl) (fun K hK=> ?_) aX;go_simp
 refine hK.out _ _ (by(try dsimp only);go_keep) (fun hHeld=> ?_);clear hK K;try simp only[Act.put,pA,pZ,pS]
 refine wpAnyH_done kR ?_ _;simp only[nX,aP,aU];go_wp2_with fail;have nl:(jU e).length=jR e:=by unfold jU;simp
 obtain⟨W3,hW3⟩:=eY (((W2.alloc (.cells (bools (jU e)).toArray 4)).alloc (.cells #[.int .i64 nd,.int .i64 pg,.int .i64 0,.slice (some ⟨w1.heap.size+1,0,none⟩) (jR e) (jR e),.int .i64 0] 218)).drew);rw[←hW3];have LG:jD W3 (w1.heap.size+1) (bools (jU e)):=by
  rw[hW3];exact((jD.mk_ W2 (bools (jU e)) 4 s2).past _).lT
 have LS:jD W3 (w1.heap.size+1+1) [.int .i64 nd,.int .i64 pg,.int .i64 0,.slice (some ⟨w1.heap.size+1,0,none⟩) (jR e) (jR e),.int .i64 0]:=by
  rw[hW3];exact(jD.mk_ (W2.alloc (.cells (bools (jU e)).toArray 4)) [.int .i64 nd,.int .i64 pg,.int .i64 0,.slice (some ⟨w1.heap.size+1,0,none⟩) (jR e) (jR e),.int .i64 0] 218 (by simp[s2])).lT
 have b3:Below W2.heap.size W2 W3:=by rw[hW3];exact jK
 have s3:W3.heap.size=w1.heap.size+1+1+1:=by rw[hW3];simp[s2]
 have SB3:=ah (show tL W3 (w1.heap.size+1+1,w1.heap.size+1) ⟨nd,pg,jU e⟩ from⟨by
  have e0:oK ⟨nd,pg,jU e⟩ (w1.heap.size+1)=[.int .i64 nd,.int .i64 pg,.int .i64 0,.slice (some ⟨w1.heap.size+1,0,none⟩) (jR e) (jR e),.int .i64 0]:=by
   have m0:jQ ⟨nd,pg,jU e⟩=0:=vO e;unfold oK;rw[m0];simp[nl]
  show jD W3 (w1.heap.size+1+1) (oK ⟨nd,pg,jU e⟩ (w1.heap.size+1));rw[e0];exact LS,LG⟩)
 have B13:=ah (show Below w1.heap.size w1 W3 from b2.trans (b3.mono om));have q0:=(P2.go b3).gC 0;have q1:=(P2.go b3).gC 1;have q2:=(P2.go b3).gC 2;have ql:=(P2.go b3).lt;have x2:W3.cell? ⟨pc,2,none⟩=some (.slice qv c.C.length kv):=(b3.cell (p:=⟨pc,2,none⟩) gl).trans g2;have xl:pc<W3.heap.size:=om;obtain⟨i,hi⟩:=eY (uF nd pg c.C);have hil:i≤c.C.length:=by rw[hi];exact xZ _ _ _
 have few:=HI.out.few;have LA:=H1'.out.ch.len;have BS:Hid (∀W,Below W3.heap.size W3 W→Calls Tryz.prog 136 #[.slice qv c.C.length kv,.agg #[.int .i64 nd,.int .i64 pg,.int .i64 0],.func (.func 137) #[] #[]] W fun r w'=>r= .returned (.tuple #[.int .i64 i,.bool (hitS nd pg c.C)])∧Below W.heap.size W w'):=fun W b=>by
  rw[hi];exact QH nd pg W (H1'.out.ch.below (B13.out.trans (b.mono om))) HI.out.srt few
 have IN:Hid (∀W vb,Below W3.heap.size W3 W→Row1 W vb 211 [.pointer (some ⟨w1.heap.size+1+1,0,none⟩)]→W3.heap.size≤vb→Calls Tryz.prog 139 #[.slice qv c.C.length kv,.int .i64 i,.slice (some ⟨vb,0,none⟩) 1 1] W (uW B (.slice qv c.C.length kv) (kZ A) i (.pointer (some ⟨w1.heap.size+1+1,0,none⟩)) W)):=fun W vb b hr hvb=>by
  have hc:=H1'.out.ch.below (B13.out.trans (b.mono om));have el:c.C.length=(kZ A).length:=by rw[qG,LA]
  have ho:W.ownsRow B 211 1 (.slice qv c.C.length kv) (kZ A).length (kZ A):=by rw[←el];exact hc.row
  rw[el] at ho;rw[el];refine sins_ok (.slice qv (kZ A).length kv) i (kZ A) _ vb W ho (by rw[←el];exact hil) (Af A) rfl (by rw[←el];omega) hr (fun q=> ?_) (by have:=b.size;have:=HK1.out.size;omega);rw[←el] at q;have:=(H1'.out.ch.lim vb (ak _ (av _ q))).2;omega
 have HIP:=ah hi;have S3:=ah s3;clear s3 P2 p0 p1 p2 pl g1 g2 gl en0 en1 hq0 hq hwr MK b2 b3 LG LS hW3 k1 k2 kl hi hHeld nl r64;refine jL kR kR ?_;repeat(go_big_quiet_step (((go_at_call 136;exact Calls.behind (BS.out _ (Behind.h _))))))
 refine wpQuiet_nil ?_;intro w4 hw';have hb4:=kS hw';clear hw';obtain⟨c4,f4⟩:=xW hb4;have z4:=hb4.size;try simp at z4 c4 f4
 have B14:=ah (B13.out.trans (hb4.mono (by have:=S3.out;omega)));have HB4:=ah hb4;have HC4:=ah (H1'.out.ch.below B14.out);have y2:=HC4.out.c.gC 2;have yf:=HC4.out.c.f 2 sI;have yl:=HC4.out.c.lt;have S4:=ah z4;have SB4:=ah (SB3.out.keep (Keep.of (S:=[]) hb4) sI sI);clear q0 q1 q2 ql x2 xl z4 hb4;go_wp2_with fail;obtain⟨W5,hW5⟩:=eY (w4.alloc (.cells #[.pointer (some ⟨w1.heap.size+1+1,0,none⟩)] 211));rw[←hW5];have R5:Row1 W5 w4.heap.size 211 [.pointer (some ⟨w1.heap.size+1+1,0,none⟩)]:=⟨_,by rw[hW5];exact World.alloc_heap_new w4 _,rfl⟩;have b5:Below w4.heap.size w4 W5:=by rw[hW5];exact jK
 clear hW5;have HB5:=ah b5;refine(IN.out W5 w4.heap.size (HB4.out.trans (b5.mono (by have:=S4.out;omega))) R5 (by have:=S4.out;omega)).mono ?_;rintro r w6 ⟨q6,k6,rfl,hown6,hk6,hv6⟩;have HC5:=HC4.out.below b5;have hpv:pc∉jF (.slice qv c.C.length kv):=fun q=>(aS.1 HC5.nd).1 (av _ q)
 have C6:=HC5.c.keep hk6 hpv;have u2:=C6.gC 2;have uf:=C6.f 2 sI;have ul:=C6.lt;have HO6:=ah hown6;have HK6:=ah hk6;have HV6:=ah hv6;have HC5':=ah HC5;clear hown6 hk6 hv6 HC5 C6 R5 b5 y2 yf yl hpv;go_wp2;go_ret2
 have el:(kZ A).length=c.C.length:=by rw[qG,LA]
 have s3:=S3.out;have s4:=S4.out;have zk:=HK1.out.size;have own6:=HO6.out;have v6:=HV6.out;rw[←Fw A i (w1.heap.size+1+1,w1.heap.size+1)] at own6;simp only[el] at own6 v6 ⊢;have lmc:=H1'.out.ch.lim;have lmz:=H1'.out.z.b.lim;obtain⟨n1,n2,n3⟩:=HC5'.out.ins (w1:=w6) (w':=w6.setCell ⟨pc,2,none⟩ (.slice q6 (c.C.length+1) k6)) (p:=(w1.heap.size+1+1,w1.heap.size+1)) (i:=i) (s:=⟨nd,pg,jU e⟩) (n:=0) hil HK6.out own6 rfl (SB4.out.keep (Keep.of (S:=[]) HB5.out) sI sI) (fun q=>by have:=(lmc _ q).2;omega) (fun q=>by have:=(lmc _ q).2;omega) sI (by show B≤_;omega) (by show B≤_;omega) v6;have z5:=HB5.out.size;refine⟨(w1.heap.size+1+1,w1.heap.size+1),_,_,_,rfl,⟨?_,by unfold uJ;rw[←HIP.out];exact n1,fun y hy=> ?_,H1'.out.l0⟩,?_,?_,?_,?_,?_⟩
 ·have zA:=H1'.out.z.more (Y:=(w1.heap.size+1+1)::(w1.heap.size+1)::X) (fun x hx=>by simp[hx]) (fun y hy=>by
   simp at hy;rcases hy with rfl|rfl|hy
   ·exact .inr om
   ·exact .inr om
   ·exact .inl hy)
  have zB:=zA.below (B14.out.trans (HB5.out.mono om));have zC:=zB.more (Y:=(w1.heap.size+1+1)::(w1.heap.size+1)::(jF (.slice q6 (c.C.length+1) k6)++X)) (fun x hx=>by
   simp at hx ⊢;rcases hx with h|h|h
   ·simp[h]
   ·simp[h]
   ·simp[h]) (fun y hy=>by
   simp only[aB,aD] at hy ⊢;rcases hy with h|h|h|h
   ·exact .inl (.inl h)
   ·exact .inl (.inr (.inl h))
   ·rcases v6 y h with t|t
    ·exact .inl (.inr (.inr (H1'.out.ch.mem y (ak _ (av _ t)))))
    ·exact .inr t
   ·exact .inl (.inr (.inr h)))
  exact zC.keep n2 (fun s hs=>.inl ⟨by
   have:s∈X:=H1'.out.ch.mem s (by
    rcases aB.1 hs with t|t
    ·subst t;exact aG ..
    ·exact ak _ (av _ t))
   simp[this],H1'.out.ne s (by
    rcases aB.1 hs with t|t
    ·subst t;exact aG ..
    ·exact ak _ (av _ t))⟩)
 ·intro q
  have ql:y<w1.heap.size:=(lmz y q).2;rcases n3 y (by rw[HIP.out] at hy ⊢;exact hy) with t|t|t|t
  ·exact H1'.out.ne y t q
  ·simp at t;omega
  ·simp at t;omega
  ·omega
 ·show(A.take i++_::A.drop i)[uF nd pg c.C]?=_
  have la:i≤A.length:=by have:A.length=c.C.length:=LA;omega
  rw[←HIP.out,wK la i];simp
 ·refine Keep.then (b:=W5) ((HK1.out.mono (fun y q=>aj _ q)).step (B14.out.trans (HB5.out.mono om))) (n2.mono (fun y q=>av _ ?_))
  rcases aB.1 q with t|t
  ·subst t;exact aG ..
  ·exact ak _ (av _ t)
 ·intro x hx
  simp[hx]
 ·intro x hx
  simp only[aB,aD] at hx;rcases hx with h|h|h|h
  ·exact .inr om
  ·exact .inr om
  ·rcases v6 x h with t|t
   ·exact .inl (H1'.out.ch.mem x (ak _ (av _ t)))
   ·exact .inr om
  ·exact .inl h
 ·intro y hy
  rcases n3 y hy with t|t|t|t
  ·exact .inl t
  ·exact .inr (by simp at t;omega)
  ·exact .inr (by simp at t;omega)
  ·exact .inr om
end
end Go.Proofs.YtehhldljdakgeaaGreatDoor
