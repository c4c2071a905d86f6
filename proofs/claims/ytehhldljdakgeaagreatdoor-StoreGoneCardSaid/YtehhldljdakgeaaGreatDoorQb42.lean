/- Lemmas. -/
import Derived.Test.YtehhldljdakgeaaGreatDoorQb01
import Derived.Test.YtehhldljdakgeaaGreatDoorQb26
import Derived.Test.YtehhldljdakgeaaGreatDoorQb31
import Derived.Test.YtehhldljdakgeaaGreatDoorQb32
set_option linter.unusedSimpArgs false
set_option linter.unusedVariables false
set_option maxHeartbeats 16000000
set_option maxRecDepth 100000
namespace Go.Proofs.YtehhldljdakgeaaGreatDoor
open Go.RowKit Go.Maps Go.Proofs.Tryz
attribute [local go_sem ↓] aJ aK
section
open Go.RowKit Go.ChangeShapes
end
section
open Go.RowKit Go.ChangeShapes
theorem xam:prog.cellsOf 3=1:=kR
theorem rowI_of {H:Type} {enc:TypeId×Value→H} {W:World} {base:Nat} {spare:Nat→Bool} {held:Bool} {fuel:Nat} {v:Value} {x:DataW H×List MemPlace}
 (h:DataW.trod enc prog W base spare held fuel 59 [v]=some x): ∃xs,RowI W v xs:=by
 rcases open_ints dK bB xam h with⟨hcs,_⟩|⟨a,len,cap,zs,hcs,_,hl,hm,hz,_,hcell,hwz⟩
 ·have e:v= .slice none 0 0:=by simpa using hcs
  exact⟨[],none,0,e,fun j x hj=>by simp at hj⟩
 ·have e:v= .slice (some a) len cap:=by simpa using hcs
  have hlz:len≤zs.length:=by
   rw[hz];split<;>omega
  refine⟨zs.take len,some a,cap,?_,fun j x hj=> ?_⟩
  ·rw[e,bD,Nat.min_eq_left hlz]
  ·have hjl:j<len:=by
    have:=(au.1 hj).1;rw[bD] at this;omega
   rw[dH hjl] at hj;obtain⟨b,off,spot⟩:=a;have h0:=hcell 0 om;have hspot:spot=none:=by simpa[Addr.add] using World.cell?_spot h0
   subst hspot;have hx:zs.getD j 0=x:=by rw[dQ,hj];rfl
   have hc:=hcell j om;rw[hx] at hc;have hc':W.cell? ⟨b,off+j,none⟩=some (.int .i64 x):=by
    rw[←hc];unfold Addr.add;split
    ·rename_i e0;rw[e0];rfl
    ·rfl
   have hw:=hwz x (aF hj);refine⟨b,off,rfl,?_,hc',?_⟩
   ·rcases dU b W.heap.size with q|q
    ·exact q
    ·simp[World.cell?,eO q] at hc'
   ·simp[Lit.wf,IntKind.min,IntKind.max,IntKind.signed,IntKind.bits] at hw
    omega
end
section
variable {p e n nw sz:Nat} {d:De} {s:St} {q:Po} {o:Ob} {k id:Int} {x y:Bk} {L:List Bk}
theorem StJ.empty (h:StJ e sz s) (hL:s.L=[]):s.p.R≠[]:=fun q=>by
 have:=h.j;rw[h.t,hL,q] at this;simp at this
theorem StJ.put (h:StJ e sz s) (hI:uG e sz (s.put y)):StJ e sz (s.put y):=⟨hI,h.h,h.m,h.j,by show _=(Al s.L y).length;unfold Al;rw[dD];exact h.t⟩
theorem delB_len (hn:(L.map (·.id)).Nodup) (hx:x∈L):(Cw L x.id).length+1=L.length:=by
 induction L with
 |nil=>cases hx
 |cons a L ih=>
  rw[bH,aS] at hn;unfold Cw at ih ⊢;rw[gH];by_cases q:a.id=x.id
  ·have hf:(L.filter fun y=>y.id !=x.id)=L:=by
    rw[dN];intro y hy;have:y.id≠x.id:=fun r=>hn.1 (q▸r▸bC.2 ⟨y,hy,rfl⟩)
    simpa using this
   rw[if_neg (by simp[q]),hf];simp
  ·rcases aB.1 hx with rfl|r
   ·exact absurd rfl q
   ·rw[if_pos (by simpa using q)]
    have:=ih hn.2 r;simp only[dB];omega
theorem StJ.drop (h:StJ e sz s) (hx:mW s.L id=some x) (h1:x.h=1) (hw:mG s.p k=true):
 (sP e s k id).2=0∧(sP e s k id).1.L=Cw s.L id∧(sP e s k id).1.last=s.last∧(sP e s k id).1.p.last=s.p.last∧StJ e sz (sP e s k id).1:=by
 have HI:=h.inv.drop k id;obtain⟨m1,m2⟩:=mH hx;have e0:sP e s k id=(⟨(lZ e s.p k x.o).1,Cw s.L id,s.last⟩,0):=by
  unfold sP;rw[hx];simp only;rw[if_neg (by rw[hw];simp),if_pos h1]
 rw[e0] at HI ⊢;have hT:=h.inv.t x m1;have hle:=iC hT;have hpos:=List.length_pos_of_mem hT;have hdl:=delB_len h.inv.ndI m1;rw[m2] at hdl;have hj:=h.j;have ht:=h.t;have hm:=h.m;have eg:(lZ e s.p k x.o).1=⟨s.p.d,s.p.most,s.p.R++[x.o],s.p.T.erase x.o,[],s.p.G,s.p.last,s.p.cl⟩∧s.p.R=[]∨(lZ e s.p k x.o).1=⟨(lI e s.p.d k x.o).1,s.p.most,s.p.R,s.p.T.erase x.o,[],s.p.G,s.p.last,s.p.cl⟩∧1≤s.p.R.length:=by
  unfold lZ Cj;rw[if_neg (by rw[h.inv.cl];simp),if_neg (by rw[hw];simp),if_pos hT,h.inv.w];simp only;by_cases q:s.p.R.length<s.p.most
  ·rw[if_pos q];exact .inl ⟨rfl,bM.1 om⟩
  ·rw[if_neg q];exact .inr ⟨rfl,om⟩
 rcases eg with⟨g1,g2⟩|⟨g1,g2⟩
 ·rw[g1] at HI ⊢
  refine⟨rfl,rfl,rfl,rfl,HI,h.h,hm,?_,?_⟩
  ·simp only[aW,cB];omega
  ·simp only;omega
 ·rw[g1] at HI ⊢
  refine⟨rfl,rfl,rfl,rfl,HI,Cn.trans h.h,hm,?_,?_⟩
  ·simp only;omega
  ·simp only;omega
end
theorem pQ.app {σ:Type} {w0 w W W':World} {E:FEnv σ w0} {X0 F L X:List Nat} {d:σ} {v v':Value} (h:pQ E X0 F w L X d W) (hv: ∀y∈jS v,y∈L) (hg:W.grownBy W' v.ownBlock) (hz:v'.ownBlock=v.ownBlock∨v'.ownBlock=some W.heap.size) (hlt: ∀g,v'.ownBlock=some g→g<W'.heap.size):
 ∃L' X',pQ E X0 F w L' X' d W'∧∀y∈jS v',y∈L':=by
 have k:=kJ hg;refine⟨_,_,h.put k hv (Y:=(jS v').filter (fun y=>decide (W.heap.size≤y))) (fun y hy=> ?_),fun y hy=> ?_⟩
 ·obtain⟨q1,q2⟩:=bG.1 hy
  exact⟨of_decide_eq_true q2,hlt y (o7.1 q1)⟩
 ·rcases oM hz y hy with r|r
  ·exact aj _ (hv y r)
  ·exact av _ (bG.2 ⟨hy,dQt r⟩)
theorem asc_len {l:List Int} {a:Int} (h:l.Pairwise (· < ·)) (hr: ∀x∈l,1≤x∧x≤a):(l.length:Int)≤max a 0:=by
 induction l generalizing a with
 |nil=>simp;omega
 |cons x l ih=>
  obtain⟨h1,h2⟩:=bN.1 h;have key: ∀{l:List Int} {b:Int},l.Pairwise (· < ·)→(∀x∈l,b<x∧x≤a)→b≤a→(l.length:Int)≤a-b:=by
   intro l;induction l with
   |nil=>intro b _ _ hb;simp;omega
   |cons y l ih2=>
    intro b hp hx hb;obtain⟨p1,p2⟩:=bN.1 hp;have:=ih2 (b:=y) p2 (fun z hz=>⟨p1 z hz,(hx z (ak _ hz)).2⟩) (hx y sI).2;have:=(hx y sI).1;simp only[dB];omega
  have hx:=hr x sI;have:=key h2 (fun z hz=>⟨h1 z hz,(hr z (ak _ hz)).2⟩) hx.2;simp only[dB];omega
structure yD (e i:Nat) (s:St):Prop where
 j:StJ e e s
 h1: ∀x∈s.L,x.h=1
 l:s.last≤i
 p:s.p.last≤i
section
variable {e i k:Nat} {s:St} {x y:Bk} {L:List Bk} {t:List UInt8}
theorem yD.up {j:Nat} (h:yD e i s) (hj:i≤j):yD e j s:=⟨h.j,h.h1,by have:=h.l;omega,by have:=h.p;omega⟩
theorem yD.take (hO:rM [[0]] s.p.d.c.L.length) (h:yD e i s):
 (∃p o,pW 0 [[0]] e e s 0 0=(⟨p,s.L++[sO e s o],s.last+1⟩,0,s.last+1)∧yD e (i+1) ⟨p,s.L++[sO e s o],s.last+1⟩)∨
 (∃p,pW 0 [[0]] e e s 0 0=(s.atP p,8,0)∧yD e (i+1) (s.atP p)∧s.L≠[]):=by
 obtain⟨t1,t2⟩:=h.j.take hO (k:=0) om;have t3:=(h.j.inv.take (mn:=0) hO 0 0).2;have hl:=h.l;have hp:=h.p;rcases t2 with c0|⟨c8,hR⟩
 ·rw[qx c0] at t1 t3 ⊢
  refine .inl ⟨_,_,rfl,t1,fun x q=> ?_,by simp only;omega,by simp only at t3 ⊢;omega⟩;rcases aD.1 q with r|r
  ·exact h.h1 x r
  ·simp at r;subst r;rfl
 ·rw[pJ (by rw[c8];simp)] at t1 t3 ⊢
  rw[c8];refine .inr ⟨_,rfl,⟨t1,h.h1,by show s.last≤_;omega,by simp only at t3 ⊢;omega⟩,fun q=> ?_⟩;exact h.j.empty q hR
theorem Gr {p:Po} {o:Ob} (h:uG e e ⟨p,s.L++[sO e s o],s.last+1⟩):mW (s.L++[sO e s o]) (s.last+1)=some (sO e s o):=
 uN (x:=sO e s o) h.ndI (aj _ (bL.2 rfl))
theorem J4 {p:Po} {o:Ob} (h:uG e e ⟨p,s.L++[sO e s o],s.last+1⟩):lC e ⟨p,s.L++[sO e s o],s.last+1⟩ (s.last+1) 0 e=0:=by
 unfold lC;rw[Gr h];simp only;rw[if_neg om]
theorem new_read {p:Po} {o:Ob} (h:uG e e ⟨p,s.L++[sO e s o],s.last+1⟩):vG e ⟨p,s.L++[sO e s o],s.last+1⟩ (s.last+1) 0 e=List.replicate e 0:=by
 unfold vG;rw[Gr h];simp only;rw[if_pos (J4 h)];simp[sO]
theorem xan {p:Po} {o:Ob} (he:1≤e) (h:yD e i ⟨p,s.L++[sO e s o],s.last+1⟩):
 ∃s',nZ e ⟨p,s.L++[sO e s o],s.last+1⟩ (s.last+1) 0 [120]=(s',0)∧s'.L.map (·.id)=s.L.map (·.id)++[s.last+1]∧s'.last=s.last+1∧yD e i s':=by
 have HI:=h.j.inv.write (s.last+1) 0 [120];unfold nZ at HI ⊢;rw[Gr h.j.inv] at HI ⊢;simp only at HI ⊢;rw[if_neg (by simp;omega),if_neg (by simp[sO])] at HI ⊢;refine⟨_,rfl,?_,rfl,h.j.put HI,fun x q=> ?_,h.l,h.p⟩
 ·show(Al (s.L++[sO e s o]) _).map (·.id)=_
  rw[AX,dz];rfl
 ·rcases QA q with⟨r,_⟩|⟨r,_⟩
  ·rw[r];rfl
  ·exact h.h1 x r
theorem delB_ids (hn:(L.map (·.id)).Nodup) (hx:L[k]?=some x):(Cw L x.id).map (·.id)=(L.map (·.id)).eraseIdx k:=by
 induction L generalizing k with
 |nil=>simp at hx
 |cons a L ih=>
  rw[bH,aS] at hn;unfold Cw at ih ⊢;cases k with
  |zero=>
   simp at hx;subst hx;rw[List.filter_cons_of_neg sI,bH,List.eraseIdx_cons_zero];congr 1
   rw[dN];intro y hy;have:y.id≠a.id:=fun r=>hn.1 (r▸bC.2 ⟨y,hy,rfl⟩)
   simpa using this
  |succ k=>
   simp only[jk] at hx;have:a.id≠x.id:=fun r=>hn.1 (r▸bC.2 ⟨x,aF hx,rfl⟩)
   rw[List.filter_cons_of_pos (by simpa using this),bH,bH,jm,ih hn.2 hx]
theorem xao {id:Int}:mW (Cw L id) id=none:=by
 unfold mW;rw[fB];intro y hy;have:=(xG hy).2;simpa using this
theorem yD.drop (hO:rM [[0]] s.p.d.c.L.length) (h:yD e i s) (hx:s.L[k]?=some x):
 ∃s',sP e s 0 x.id=(s',0)∧sP e s' 0 x.id=(s',4)∧wZ s' x.id=(s',4)∧s'.L.map (·.id)=(s.L.map (·.id)).eraseIdx k∧s'.last=s.last∧yD e i s':=by
 have hm:=aF hx;have hf:=uN h.j.inv.ndI hm;have hw:=(h.j.right hO (k:=0) om).1;obtain⟨d1,d2,d3,d4,d5⟩:=h.j.drop hf (h.h1 x hm) hw;obtain⟨s',hs⟩: ∃s',s'=(sP e s 0 x.id).1:=⟨_,rfl⟩;rw[←hs] at d2 d3 d4 d5;have hg:mW s'.L x.id=none:=by rw[d2];exact xao
 refine⟨s',by rw[hs,←d1],?_,?_,?_,d3,d5,fun y q=> ?_,by rw[d3];exact h.l,by rw[d4];exact h.p⟩
 ·unfold sP;rw[hg]
 ·unfold wZ;rw[hg]
 ·rw[d2];exact delB_ids h.j.inv.ndI hx
 ·rw[d2] at q
  exact h.h1 y (xG q).1
end
section
variable {pd pc pz e B0:Nat} {ev:Nat→Addr} {w0:World} {E:sG pd pc pz e 0 [[0]] ev w0} {X0 F0:List Nat} {w w' W W':World} {ps pp:Nat} {s s':St} {id a n:Int} {v v':Value} {ids ids':List Int}
def GS (E:sG pd pc pz e 0 [[0]] ev w0) (pp ps:Nat) (X0 F0:List Nat) (w:World) (v:Value) (ids:List Int) (s:St) (W:World):Prop:=
 ∃L X,pQ (vI (kQ E pp) ps pp e e) X0 F0 w L X s W∧W.ownsRow w.heap.size 3 1 v ids.length (ints ids)∧∀y∈jS v,y∈L
theorem GS.go (h:GS E pp ps X0 F0 w v ids s W) (k:Below W.heap.size W W'):GS E pp ps X0 F0 w v ids s W':=by
 obtain⟨L,X,hr,ho,hv⟩:=h;exact⟨L,X,hr.go k,jQ ho (Keep.of (S:=[]) k) (fun s hs=>by cases hs),hv⟩
theorem GS.own (h:GS E pp ps X0 F0 w v ids s W):W.ownsRow w.heap.size 3 1 v ids.length (ints ids):=by
 obtain⟨L,X,hr,ho,hv⟩:=h;exact ho
theorem GS.sx (h:GS E pp ps X0 F0 w v ids s W):SX E pp ps s W:=by
 obtain⟨L,X,hr,ho,hv⟩:=h;exact⟨_,_,hr.t⟩
theorem GS.size (h:GS E pp ps X0 F0 w v ids s W):w.heap.size≤W.heap.size:=by
 obtain⟨L,X,hr,ho,hv⟩:=h;exact hr.k.size
theorem GS.act {f:FuncId} {args:Array Value} {r:Value} (h:GS E pp ps X0 F0 w v ids s W) (C: ∀X F,(vI (kQ E pp) ps pp e e).S X F s W→Calls prog f args W (EPost (vI (kQ E pp) ps pp e e).S X F s' W r)):
 Calls prog f args W fun en w'=>en= .returned r∧GS E pp ps X0 F0 w v ids s' w':=by
 obtain⟨L,X,hr,ho,hv⟩:=h;refine(C X (L++F0) hr.t).mono fun en w' hp=> ?_
 obtain⟨h1,X',h2,k⟩:=hr.act hp;exact⟨h1,L,X',h2,jQ ho k (fun s hs q=>(jW.1 hs).2 (av _ (hv s q))),hv⟩
theorem GS.app (h:GS E pp ps X0 F0 w v ids s W) (hg:W.grownBy W' v.ownBlock) (hz:v'.ownBlock=v.ownBlock∨v'.ownBlock=some W.heap.size) (ho:W'.ownsRow w.heap.size 3 1 v' ids'.length (ints ids')):GS E pp ps X0 F0 w v' ids' s W':=by
 obtain⟨L,X,hr,_,hv⟩:=h;obtain⟨L8,X8,hR8,hL8⟩:=hr.app hv hg hz (fun g hg=>(ho.lt g hg).2);exact⟨L8,X8,hR8,ho,hL8⟩
theorem GS.new (h:GS E pp ps X0 F0 w v ids s W) (k:Below W.heap.size W W') (ho:W'.ownsRow W.heap.size 3 1 v' ids'.length (ints ids')):GS E pp ps X0 F0 w v' ids' s W':=by
 obtain⟨L,X,hr,_,hv⟩:=h;exact⟨_,_,hr.put (Y:=jS v') (Keep.of (S:=[]) k) (fun g hg=>by cases hg) (fun y hy=>jZ ho hy),qB ho hr.k.size,fun y hy=>av _ hy⟩
theorem gs_take (h:GS E pp ps X0 F0 w v ids s W) (k n:Int) (hl:s.p.last<4611686018427387903) (hl2:s.last<4611686018427387903):
 Calls prog 32 #[.pointer (some ⟨ps,0,none⟩),.int .i64 k,.int .i64 n] W fun r w'=>r= .returned (.tuple #[.int .i64 (pW 0 [[0]] e e s k n).2.2,kM ev (pW 0 [[0]] e e s k n).2.1])∧GS E pp ps X0 F0 w v ids (pW 0 [[0]] e e s k n).1 w':=by
 have h64:=h.sx.e64;exact h.act fun X F q=>yB k n om hl hl2 q
theorem gs_write (h:GS E pp ps X0 F0 w v ids s W) (hid:kW id) (ha:kW a) {t:ByteArray} (ht:t.size≤65536):
 Calls prog 34 #[.pointer (some ⟨ps,0,none⟩),.int .i64 id,.int .i64 a,.string t] W fun r w'=>r= .returned (kM ev (nZ e s id a t.data.toList).2)∧GS E pp ps X0 F0 w v ids (nZ e s id a t.data.toList).1 w':=by
 have h64:=h.sx.e64;exact h.act fun X F q=>zS om hid ha ht q
theorem gs_hold (h:GS E pp ps X0 F0 w v ids s W) (hid:kW id):
 Calls prog 31 #[.pointer (some ⟨ps,0,none⟩),.int .i64 id] W fun r w'=>r= .returned (kM ev (wZ s id).2)∧GS E pp ps X0 F0 w v ids (wZ s id).1 w':=
 h.act fun X F q=>IC hid q
theorem xap (h:GS E pp ps X0 F0 w v ids s W) (hid:kW id) (k:Int) (hl:s.p.last<4611686018427387904):
 Calls prog 30 #[.pointer (some ⟨ps,0,none⟩),.int .i64 k,.int .i64 id] W fun r w'=>r= .returned (kM ev (sP e s k id).2)∧GS E pp ps X0 F0 w v ids (sP e s k id).1 w':=
 h.act fun X F q=>IJ hid k hl q
theorem gs_read (h:GS E pp ps X0 F0 w v ids s W) (hid:kW id) (ha:kW a) (hn:kW n):
 Calls prog 33 #[.pointer (some ⟨ps,0,none⟩),.int .i64 id,.int .i64 a,.int .i64 n] W fun r w'=>r= .returned (.tuple #[.string ⟨(vG e s id a n).toArray⟩,kM ev (lC e s id a n)])∧GS E pp ps X0 F0 w v ids s w':=by
 have h64:=h.sx.e64;have g:=fun w' k=>h.go (W':=w') k
 obtain⟨L,X,hr,ho,hv⟩:=h;exact(zq om hid ha hn hr.t).mono fun r w' ⟨h1,h2⟩=>⟨h1,g w' h2⟩
theorem gs_start {q:Po} (h:(vI (kQ E pp) ps pp e e).S X0 F0 ⟨q,[],0⟩ w):GS E pp ps X0 F0 w (.slice none 0 0) [] ⟨q,[],0⟩ w:=
 ⟨[],X0,pQ.start h,aT _ _ _ _,fun y hy=>by cases hy⟩
end
section
variable {pd pc pz e:Nat} {ev:Nat→Addr} {w0:World} {E:sG pd pc pz e 0 [[0]] ev w0} {X0 F0:List Nat} {w W:World} {ps pp N k:Nat} {s:St} {q:Option Addr} {v:Value} {ids:List Int}
theorem GS.at (h:GS E pp ps X0 F0 w (.slice q N k) ids s W) {j:Nat} {x:Int} (hx:ids[j]?=some x): ∃g,q=some ⟨g,0,none⟩∧N=ids.length∧N≤k∧k≤maxLen∧g<W.heap.size∧W.cell? ⟨g,j,none⟩=some (.int .i64 x):=by
 have ho:=h.own;have hj:j<ids.length:=(au.1 hx).1;have ho':=ho;rcases ho.2 with⟨_,h3⟩|⟨g,cap,cur,e,_,_,hc,hm,_⟩
 ·omega
 ·injection e with e1 e2 e3
  subst e1 e2 e3;refine⟨g,rfl,rfl,hc,hm,(ho'.lt g rfl).2,?_⟩;rw[ho'.cellAt j om];simp[ints,hx]
theorem gs_ids (h:GS E pp ps X0 F0 w v ids s W) (hl:s.L.length≤65536):
 Calls prog 35 #[.pointer (some ⟨ps,0,none⟩)] W fun r w'=>∃u,r= .returned u∧nO [] w' u (ints (s.L.map (·.id)))∧GS E pp ps X0 F0 w v ids s w':=by
 have g:=fun w' k=>h.go (W':=w') k
 obtain⟨L,X,hr,ho,hv⟩:=h;exact(Xq hl hr.t).mono fun r w' ⟨u,h1,h2,h3⟩=>⟨u,h1,rH (by rw[dD];exact h2),g w' h3⟩
end
theorem DK {B:Nat} {ev:Nat→Addr} (size many:Int) (v:Value) (xs:List Int) (w:World) (hE:qC B ev w) (f1:kW size) (f2:kW many) (hv:RowI w v xs):
 Calls prog 4 #[.int .i64 size,.int .i64 many,v] w fun e w'=>e= .returned (.bool true)∧Below w.heap.size w w':=by
 obtain⟨p,cap,rfl,hc⟩:=hv;have SV:=ah (Cz w hE);have EE:Hid (∀W,Below w.heap.size w W→qC B ev W):=fun W hW=>hE.go hW
 have C:=ah hc;obtain⟨n,hn⟩:=eY xs.length;have HN:=ah hn;rw[←hn];clear hE hc hn;go_in
 go_wp2_with fail;refine SV.out.mono ?_;rintro r w1 ⟨rfl,hb1⟩;clear SV;by_cases hbad:size<16∨64<size∨many<1∨8<many∨40<(n:Int)
 ·have D:(decide (size<16)=true)∨(decide (size<16)=false∧decide (64<size)=true)∨(decide (size<16)=false∧decide (64<size)=false∧decide (many<1)=true)∨(decide (size<16)=false∧decide (64<size)=false∧decide (many<1)=false∧decide (8<many)=true)∨(decide (size<16)=false∧decide (64<size)=false∧decide (many<1)=false∧decide (8<many)=false∧decide (40<(n:Int))=true):=by
   by_cases p1:size<16
   ·exact .inl (dQt p1)
   by_cases p2:64<size
   ·exact .inr (.inl ⟨dQf p1,dQt p2⟩)
   by_cases p3:many<1
   ·exact .inr (.inr (.inl ⟨dQf p1,dQf p2,dQt p3⟩))
   by_cases p4:8<many
   ·exact .inr (.inr (.inr (.inl ⟨dQf p1,dQf p2,dQf p3,dQt p4⟩)))
   exact .inr (.inr (.inr (.inr (⟨dQf p1,dQf p2,dQf p3,dQf p4,dQt om⟩))))
  clear hbad f1 f2;rcases D with d1|⟨d1,d2⟩|⟨d1,d2,d3⟩|⟨d1,d2,d3,d4⟩|⟨d1,d2,d3,d4,d5⟩;all_goals
   go_wp2;go_ret;exact⟨rfl,hb1⟩
 have d1:decide (size<16)=false:=dQf om;have d2:decide (64<size)=false:=dQf om;have d3:decide (many<1)=false:=dQf om;have d4:decide (8<many)=false:=dQf om;have d5:decide (40<(n:Int))=false:=dQf om;obtain⟨e,he⟩: ∃e:Nat,size=e:=⟨size.toNat,om⟩;obtain⟨m,hm⟩: ∃m:Nat,many=m:=⟨many.toNat,om⟩;subst he hm;have q1:16≤e∧e≤64:=om;have q2:1≤m∧m≤8:=om;have q3:n≤40:=om;have SH:=ah (show Calls prog 29 #[.int .i64 2,.int .i64 e] w1 _ from IQ 2 e w1 (EE.out _ hb1) om ⟨om,om⟩);have HB1:=ah hb1;clear hbad f1 f2 hb1;go_wp2_with fail;clear d1 d2 d3 d4 d5;refine SH.out.mono ?_;rintro r w2 ⟨w3,pd,pc,pz,E,pp,ps,pm,X,F,q,rfl,hS,hb3,hb2,hJ,hM,hR,hT,hl⟩;have HB3:Hid (Below w.heap.size w w3):=HB1.out.trans (hb3.mono HB1.out.size);have HB2:Hid (Below w.heap.size w w2):=HB1.out.trans (hb2.mono HB1.out.size);have G0:=ah (gs_start hS);have I0:Hid (yD e 0 ⟨q,[],0⟩):=⟨hJ,fun x hx=>(by cases hx),bZ _,by simp only;omega⟩;have Q1:=ah q1;have Q2:=ah q2;have Q3:=ah q3;clear SH hS hJ hM hR hT hl hb3 hb2 HB1 q1 q2 q3;go_wp2_with fail;go_loopw [11,12,13] (fun lv kv iv wr=>∃(i:Nat) (qq:Option Addr) (kk N:Nat) (ids:List Int) (la:Int) (s:St),i≤n+m∧iv= .int .i64 i∧lv= .slice qq N kk∧kv= .int .i64 la∧Hid (GS E pp ps X F w2 (.slice qq N kk) ids s wr)∧Hid (yD e i s)∧Hid (ids=s.L.map (·.id)∧N=ids.length∧la=s.last)) (fun _ _ iv _=>n+m-(intOf iv).toNat);case atStart=>exact⟨0,none,0,0,[],0,⟨q,[],0⟩,om,by go_num,rfl,by go_num,G0,I0,⟨rfl,rfl,rfl⟩⟩
 case round=>
  obtain⟨i,qq,kk,N,ids,la,s,hin,rfl,rfl,rfl,HG,HI,HX⟩:=hrel;clear G0 I0;have hnm:=Q2.out;have hn40:=Q3.out;have i0:(0:Int)≤(i:Int):=om;have KR:Below w.heap.size w wr:=HB3.out.trans (HG.out.sx.bel.mono HB3.out.size);by_cases hlt:i<n+m
  ·have hli:(i:Int)<(n:Int)+(m:Int):=by omega
   have wnm:IntKind.i64.wrap ((n:Int)+(m:Int))=(n:Int)+(m:Int):=aY _ om;have GO:=HG.out.sx.ord;have hs1:=HI.out.l;have hs2:=HI.out.p;have HNN:Hid (N=s.L.length):=by show _=_;rw[HX.out.2.1,HX.out.1,dD]
   have HNk:Hid (N≤60):=by
    show _≤_;have h1:=HI.out.j.inv.asc;have h2:=HI.out.j.inv.rng;have:=asc_len h1 (fun x hx=>by obtain⟨y,hy,rfl⟩:=bC.1 hx;exact h2 y hy);rw[HNN.out];rw[dD] at this;omega
   by_cases hD: ∃x:Int,i<n∧xs[i]?=some x∧0≤x∧0<N
   ·obtain⟨x,h1,h2,h3,h4⟩:=hD
    obtain⟨g,off,rfl,hg,hcx,wx1,wx2⟩:=C.out i x h2;have r0:=(KR.cell (p:=⟨g,off+i,none⟩) hg).trans hcx;have r0l:g<wr.heap.size:=aC hg KR.size;have i1:(i:Int)<(n:Int):=om;have x0:decide ((0:Int)≤x)=true:=dQt h3;have n0:decide ((0:Int)<(N:Int))=true:=dQt om;obtain⟨j,hj⟩: ∃j:Nat,(j:Int)=x % (N:Int):=⟨(x % (N:Int)).toNat,by have:=Int.emod_nonneg x (b:=(N:Int)) om;omega⟩;have hjl:j<N:=by have:=Int.emod_lt_of_pos x (b:=(N:Int)) om;omega
    have hq:x.tmod (N:Int)=(j:Int):=by rw[iT h3,hj]
    have hn0: ¬((N:Int)=0):=om;have j0:(0:Int)≤(j:Int):=om;have j1:(j:Int)<(N:Int):=om;have hlen:N=s.L.length:=by rw[HX.out.2.1,HX.out.1,dD]
    obtain⟨y,hy⟩: ∃y,s.L[j]?=some y:=⟨s.L[j]' om,aA _⟩;have hid:ids[j]?=some y.id:=by rw[HX.out.1,gq,hy];rfl
    have hrg:=HI.out.j.inv.rng y (aF hy);obtain⟨s',t1,t2,t3,t4,t5,t6⟩:=HI.out.drop GO hy;obtain⟨gg,rfl,hNe,hNk,hkm,gl,gc⟩:=HG.out.at hid;clear hNe;unfold maxLen at hkm;obtain⟨yi,hyi⟩:=eY y.id;rw[←hyi] at hid hrg t1 t2 t3 gc;have fy:kW yi:=⟨om,om⟩;have D1:=xap HG.out fy 0 om;rw[t1] at D1;have D1':=ah (show Calls prog 30 #[.pointer (some ⟨ps,0,none⟩),.int .i64 0,.int .i64 yi] wr fun r w'=>r= .returned .nilIface∧GS E pp ps X F w2 (.slice (some ⟨gg,0,none⟩) N kk) ids s' w' from D1);have T2:=ah t2;have T3:=ah t3;have T6:=ah t6;have HID:=ah hid;have FY:=ah fy;have T45:Hid (ids.eraseIdx j=s'.L.map (·.id)∧la=s'.last):=⟨by rw[t4,HX.out.1],by rw[t5];exact HX.out.2.2⟩;have HLI:Hid (ids.length=N):=HX.out.2.1.symm;clear hcx hg wx1 wx2 hj hy t1 t2 t3 t4 t5 t6 hid hrg hyi fy D1 HG HI HX h1 h2 h3 h4 GO hlen hs1 hs2;go_wp2_with fail;refine D1'.out.mono ?_;rintro r w5 ⟨rfl,G5⟩;obtain⟨_,e1,hNe,_,_,gl5,gc5⟩:=G5.at HID.out;clear hNe;obtain rfl:=(show gg=_ by injection e1 with e1;injection e1);have D2:=xap G5 FY.out 0 (by have:=T6.out.p;omega);rw[T2.out] at D2;have D2':=ah (show Calls prog 30 #[.pointer (some ⟨ps,0,none⟩),.int .i64 0,.int .i64 yi] w5 fun r w'=>r= .returned (.iface 336 (.pointer (some (ev 4))))∧GS E pp ps X F w2 (.slice (some ⟨gg,0,none⟩) N kk) ids s' w' from D2);clear D1' G5 D2 e1 r0 r0l KR;go_wp2_with fail;refine D2'.out.mono ?_;rintro r w6 ⟨rfl,G6⟩;have CD0:=sM 4 4 w6 (EE.out _ (HB3.out.trans (G6.sx.bel.mono HB3.out.size))) om rfl;have CD:=ah (show Calls prog 11 #[.iface 336 (.pointer (some (ev 4))),.int .i64 4] w6 fun e w'=>e= .returned (.bool true)∧Below w6.heap.size w6 w' from CD0)
    have HG6:=ah G6;clear CD0 G6 D2' gl5 gc5;go_wp2_with fail;refine CD.out.mono ?_;rintro r w7 ⟨rfl,hb7⟩;have G7:=HG6.out.go hb7;obtain⟨_,e1,hNe,_,_,gl7,gc7⟩:=G7.at HID.out;clear hNe;obtain rfl:=(show gg=_ by injection e1 with e1;injection e1);have H1:=gs_hold G7 FY.out;rw[T3.out] at H1;have H1':=ah (show Calls prog 31 #[.pointer (some ⟨ps,0,none⟩),.int .i64 yi] w7 fun r w'=>r= .returned (.iface 336 (.pointer (some (ev 4))))∧GS E pp ps X F w2 (.slice (some ⟨gg,0,none⟩) N kk) ids s' w' from H1);clear CD HG6 hb7 G7 H1 e1;go_wp2_with fail;refine H1'.out.mono ?_;rintro r w8 ⟨rfl,G8⟩;have CD0:=sM 4 4 w8 (EE.out _ (HB3.out.trans (G8.sx.bel.mono HB3.out.size))) om rfl;have CD:=ah (show Calls prog 11 #[.iface 336 (.pointer (some (ev 4))),.int .i64 4] w8 fun e w'=>e= .returned (.bool true)∧Below w8.heap.size w8 w' from CD0);have HG8:=ah G8;clear CD0 G8 H1' gl7 gc7;go_wp2_with fail;refine CD.out.mono ?_;rintro r w9 ⟨rfl,hb9⟩;have G9:=HG8.out.go hb9;have ow:=G9.own;rw[HLI.out] at ow;have S1:Hid (uP w9 (some ⟨gg,0,none⟩) (ints (ids.take j))):=by rw[Ir];exact AP ow _ (aL _ _)
    have S2:Hid (∀W,Below w9.heap.size w9 W→uP W (some ⟨gg,(j+1),none⟩) (ints (ids.drop (j+1)))):=fun W hW=>by
     have:=AO ow (j+1) hW;rw[←Iu] at this;exact this
    have HT:Hid ((ints (ids.take j)).length=j*1):=by show _=_;rw[sK,bD,HLI.out];omega
    have HDR:Hid ((ints (ids.drop (j+1))).length=(N-(j+1))*1):=by show _=_;rw[sK,bY,HLI.out];omega
    have HER:Hid (ints (ids.eraseIdx j)=ints (ids.take j)++ints (ids.drop (j+1))):=by show _=_;rw[dM,vS]
    have HEL:Hid ((ids.eraseIdx j).length=j+(N-(j+1))):=by show _=_;rw[jL,HLI.out,if_pos hjl];omega
    have HG9:=ah G9;have j2:(j:Int)≤(kk:Int):=om;have j3:(j:Int)+1≤(N:Int):=om;have j4:(0:Int)≤(j:Int)+1:=om;have j5:((j:Int)+1).toNat=j+1:=om;have j6:(N:Int)≤(kk:Int):=om;have wj:IntKind.i64.wrap ((j:Int)+1)=(j:Int)+1:=aY _ om;clear CD hb9 HG8 G9 ow hq;have hN60:=HNk.out;by_cases hk:kk=j+1
    ·subst hk
     obtain rfl:N=j+1:=om;have hz:ints (ids.drop (j+1))=[]:=bM.1 (by rw[HDR.out,iL,Nat.zero_mul]);have S3:Hid (∀W,Below w9.heap.size w9 W→uP W (some ⟨gg,0,none⟩) (ints (ids.drop (j+1)))):=fun W _=>by rw[hz];exact .inr ⟨_,rfl,fun j u hj=>by simp at hj⟩
     have HD3:Hid ((ints (ids.drop (j+1))).length=0*1):=by show _=_;rw[hz];simp
     clear hz;go_wp2_with (first|(at_builtin;refine kP wW (base:=w9.heap.size) (v:=.slice none 0 0) (n:=0) (m:=j) (xs:=[]) (ms:=ints (ids.take j)) (p:=some ⟨gg,0,none⟩) rf (.tmp 110) (.tmp 113) rf rf rf (aT _ _ _ _) HT.out S1.out (pO _) om (aI _) ?_;intro q1 k1 wa hown1 hg1 ho1;have hb1:=(aL _ _).grown hg1 (aI _) (fun r hr=>by cases hr);have sr:=S3.out wa hb1;rw[bK] at hown1 ho1;rw[dx] at hown1)|(at_builtin;refine kP wW (base:=w9.heap.size) (v:=.slice q1 j k1) (n:=j) (m:=0) (xs:=ints (ids.take j)) (ms:=ints (ids.drop (j+1))) (p:=some ⟨gg,0,none⟩) rf (.tmp 115) (.tmp 119) rf rf rf hown1 HD3.out sr (pO _) om hb1.size ?_;intro q2 k2 wb hown2 hg2 ho2));have hb2:Below w9.heap.size w9 wb:=((Keep.of (S:=[]) hb1).trans (kJ hg2) (fun s hs=>.inr (jZ hown1 hs).1)).rA;rw[show j+0=j+(j+1-(j+1)) by omega] at hown2;rw[←HER.out] at hown2;have G':=HG9.out.new (v':=.slice q2 (j+(j+1-(j+1))) k2) (ids':=ids.eraseIdx j) hb2 (by rw[HEL.out];exact hown2);rw[show j+(j+1-(j+1))=j by omega] at G';have HG':=ah G';clear hown1 hg1 ho1 hb1 sr hown2 hg2 ho2 hb2 G';go_wp2;go_roundw;case rel=>exact⟨i+1,q2,k2,j,ids.eraseIdx j,la,s',om,by go_num,rfl,rfl,HG',T6.out.up om,⟨T45.out.1,by rw[HEL.out];omega,T45.out.2⟩⟩
     case measure=>simp[intOf];omega
    ·go_wp2_with (first|(at_builtin;refine kP wW (base:=w9.heap.size) (v:=.slice none 0 0) (n:=0) (m:=j) (xs:=[]) (ms:=ints (ids.take j)) (p:=some ⟨gg,0,none⟩) rf (.tmp 110) (.tmp 113) rf rf rf (aT _ _ _ _) HT.out S1.out (pO _) om (aI _) ?_;intro q1 k1 wa hown1 hg1 ho1;have hb1:=(aL _ _).grown hg1 (aI _) (fun r hr=>by cases hr);have sr:=S2.out wa hb1;rw[bK] at hown1 ho1;rw[dx] at hown1)|(at_builtin;refine kP wW (base:=w9.heap.size) (v:=.slice q1 j k1) (n:=j) (m:=N-(j+1)) (xs:=ints (ids.take j)) (ms:=ints (ids.drop (j+1))) (p:=some ⟨gg,(j+1),none⟩) rf (.tmp 115) (.tmp 119) rf rf rf hown1 HDR.out sr (pO _) om hb1.size ?_;intro q2 k2 wb hown2 hg2 ho2))
     have hb2:Below w9.heap.size w9 wb:=((Keep.of (S:=[]) hb1).trans (kJ hg2) (fun s hs=>.inr (jZ hown1 hs).1)).rA;rw[←HER.out] at hown2;have G':=HG9.out.new (v':=.slice q2 (j+(N-(j+1))) k2) (ids':=ids.eraseIdx j) hb2 (by rw[HEL.out];exact hown2);have HG':=ah G';clear hown1 hg1 ho1 hb1 sr hown2 hg2 ho2 hb2 G';go_wp2;go_roundw;case rel=>exact⟨i+1,q2,k2,j+(N-(j+1)),ids.eraseIdx j,la,s',om,by go_num,rfl,rfl,HG',T6.out.up om,⟨T45.out.1,HEL.out.symm,T45.out.2⟩⟩
     case measure=>simp[intOf];omega
   ·have hND:(¬(i:Int)<(n:Int))∨((i:Int)<(n:Int)∧∃x:Int,xs[i]?=some x∧(x<0∨(0≤x∧N=0))):=by
     by_cases h1:i<n
     ·refine .inr ⟨om,xs[i]'(by rw[←HN.out];exact h1),aA _,?_⟩
      by_cases h3:0≤xs[i]'(by rw[←HN.out];exact h1)
      ·refine .inr ⟨h3,?_⟩
       by_cases h4:0<N
       ·exact absurd ⟨_,h1,aA _,h3,h4⟩ hD
       ·omega
      ·exact .inl om
     ·exact .inl om
    have TKr:=ah (HI.out.take GO);have TK:=ah (gs_take HG.out 0 0 om om);have HIU:=ah hs1;obtain⟨bs,hbs⟩: ∃bs:ByteArray,bs=⟨(List.replicate e (0:UInt8)).toArray⟩:=⟨_,rfl⟩;have HBS:=ah hbs;have wla:IntKind.i64.wrap (la+1)=la+1:=aY _ (by have:=HX.out.2.2;have:=HI.out.j.inv.l0;omega);clear hbs hD GO hs1 hs2;refine hND.elim (fun h1=> ?gA) (fun hN2=> ?gR);case' gA=>
     have d1:decide ((i:Int)<(n:Int))=false:=dQf h1;clear hND
    case' gR=>
     obtain⟨h1,x,h2,h3⟩:=hN2;obtain⟨g,off,rfl,hg,hcx,wx1,wx2⟩:=C.out i x h2;have r0:=(KR.cell (p:=⟨g,off+i,none⟩) hg).trans hcx;have r0l:g<wr.heap.size:=aC hg KR.size;clear hND h2 hcx hg;refine h3.elim (fun h3=> ?gB) (fun h3=> ?gC)
    case' gB=>
     have x0:decide ((0:Int)≤x)=false:=dQf om
    case' gC=>
     obtain⟨h3,h4⟩:=h3;have x0:decide ((0:Int)≤x)=true:=dQt h3;obtain rfl:N=0:=om
    all_goals
     go_wp2_with fail;refine TK.out.mono ?_;rintro r w4 ⟨hr,G4⟩;clear TK KR;rcases TKr.out with⟨p1,o1,t1,I1⟩|⟨p1,t1,I1,hL⟩
     ·rw[t1] at hr G4
      simp only[show kM ev 0= .nilIface from rfl,←HX.out.2.2] at hr;subst hr;have RD0:=gs_read (id:=s.last+1) (a:=0) (n:=(e:Int)) G4 ⟨by have:=HI.out.j.inv.l0;omega,by have:=HIU.out;omega⟩ ⟨om,om⟩ ⟨om,by have:=Q1.out;omega⟩;rw[J4 I1.j.inv,new_read I1.j.inv,←HBS.out] at RD0;have W0:Hid (∃s',nZ e ⟨p1,s.L++[sO e s o1],s.last+1⟩ (s.last+1) 0 [120]=(s',0)∧s'.L.map (·.id)=s.L.map (·.id)++[s.last+1]∧s'.last=s.last+1∧yD e (i+1) s'):=xan (by have:=Q1.out;omega) I1;rw[←HX.out.2.2,←HX.out.1] at W0;rw[←HX.out.2.2] at RD0;obtain⟨s1,hs1⟩: ∃s1:St,s1=⟨p1,s.L++[sO e s o1],la+1⟩:=⟨_,rfl⟩;rw[←hs1] at RD0 W0;have RD:=ah (show Calls prog 33 #[.pointer (some ⟨ps,0,none⟩),.int .i64 (la+1),.int .i64 0,.int .i64 e] w4 fun r w'=>r= .returned (.tuple #[.string bs,.nilIface])∧GS E pp ps X F w2 (.slice qq _ kk) ids s1 w' from RD0);clear RD0 G4 t1 I1 hs1;go_wp2_with fail;refine RD.out.mono ?_;rintro r w5 ⟨rfl,G5⟩;have MK:=Gl e (by have:=Q1.out;omega) w5;have CV:=QG e (by have:=Q1.out;omega) w5;rw[←HBS.out] at CV;have b6:Below w5.heap.size w5 (w5.alloc (.cells (lH (List.replicate e 0)).toArray 5)):=(aL _ _).alloc (aI _) _;have G6:=G5.go b6;obtain⟨w6,hw6⟩:=eX (w5.alloc (.cells (lH (List.replicate e 0)).toArray 5));rw[hw6] at MK CV G6;obtain⟨s2,v1,v2,v3,v4⟩:=W0.out;have WR0:=gs_write (id:=la+1) (a:=0) (t:=⟨#[120]⟩) G6 ⟨by have:=HX.out.2.2;have:=HI.out.j.inv.l0;omega,by have:=HX.out.2.2;have:=HIU.out;omega⟩ ⟨om,om⟩ (by decide);rw[show(⟨#[120]⟩:ByteArray).data.toList=[120] from rfl,v1] at WR0;have WR:=ah (show Calls prog 34 #[.pointer (some ⟨ps,0,none⟩),.int .i64 (la+1),.int .i64 0,.string ⟨#[120]⟩] w6 fun r w'=>r= .returned .nilIface∧GS E pp ps X F w2 (.slice qq _ kk) ids s2 w' from WR0)
      have V2:=ah v2;have V3:=ah v3;have V4:=ah v4;have dl:decide (la+1≤la)=false:=dQf om;clear RD G5 b6 hw6 G6 WR0 v1 v2 v3 v4 W0;go_wp2_with fail;refine WR.out.mono ?_;rintro r w7 ⟨rfl,G7⟩;have ow:=G7.own;rw[←HX.out.2.1] at ow;have HG7:=ah G7;have HOW:=ah ow;clear WR G7 ow MK CV;go_wp2_with (first|(at_builtin;refine kP wW (base:=w2.heap.size) (m:=1) (xs:=ints ids) (ms:=[.int .i64 (la+1)]) (p:=some ⟨w7.heap.size,0,none⟩) rf (.tmp 164) (.tmp 166) rf rf rf (jQ HOW.out (Keep.of (S:=[]) ((aL _ _).alloc (aI _) _)) (fun s hs=>by cases hs)) rfl (qQ _ _ _) (by intro u hu;simp at hu;subst hu;rfl) (by have:=HNk.out;omega) (by have:=HG7.out.size;simp;omega) ?_;intro q2 k2 w9 hown2 hg2 ho2));have G8:=HG7.out.go (show Below w7.heap.size w7 (w7.alloc (.cells #[.int .i64 (la+1)] 3)) from(aL _ _).alloc (aI _) _);have hl9:(ids++[la+1]).length=ids.length+1:=by rw[aW];rfl
      have G9:=G8.app (v':=.slice q2 _ k2) (ids':=ids++[la+1]) hg2 ho2 (by rw[hl9,vS,←HX.out.2.1];exact hown2);have HG9:=ah G9;have HL9:=ah hl9;clear hown2 hg2 ho2 G8 G9 hl9 HG7 HOW;go_wp2;go_roundw;case rel=>exact⟨i+1,q2,k2,_,ids++[la+1],la+1,s2,om,by go_num,rfl,rfl,HG9,V4,⟨V2.out.symm,by rw[HL9.out,←HX.out.2.1],V3.out.symm⟩⟩
      case measure=>simp[intOf];omega
     ·have z0:0<s.L.length:=jd fun q=>hL (bM.1 q)
      first
      |(exfalso;have:=HNN.out;omega)
      |skip
      all_goals
       rw[t1] at hr G4;simp only[show kM ev 8= .iface 336 (.pointer (some (ev 8))) from rfl] at hr;subst hr;have nz:((N:Int)==0)=false:=by
        have:s.L.length≠0:=fun q=>hL (bM.1 q)
        rw[HNN.out];simp;exact hL
       have CD0:=sM 8 8 w4 (EE.out _ (HB3.out.trans (G4.sx.bel.mono HB3.out.size))) om rfl;have CD:=ah (show Calls prog 11 #[.iface 336 (.pointer (some (ev 8))),.int .i64 8] w4 fun e w'=>e= .returned (.bool true)∧Below w4.heap.size w4 w' from CD0);have HG4:=ah G4;have HI1:=ah I1;clear CD0 G4 t1 I1 hL;go_wp2_with fail;refine CD.out.mono ?_;rintro r w5 ⟨rfl,hb5⟩;have G5:=ah (HG4.out.go hb5);clear CD hb5;go_wp2;go_roundw;case rel=>exact⟨i+1,qq,kk,N,ids,la,s.atP p1,om,by go_num,rfl,rfl,G5,HI1,HX⟩
       case measure=>simp[intOf];omega
  ·obtain rfl:i=n+m:=by omega
   have hl1:s.L.length≤65536:=HI.out.j.inv.few;have ID:=ah (gs_ids HG.out hl1);have HGG:=ah HG.out;have hnm': ¬(((n+m:Nat):Int)<(n:Int)+(m:Int)):=om;have wnm:IntKind.i64.wrap ((n:Int)+(m:Int))=(n:Int)+(m:Int):=aY _ om;clear hlt hl1 KR;go_wp2_with fail;refine ID.out.mono ?_;rintro r w4 ⟨u,rfl,hu,G4⟩;have ow:=G4.own;have hv:=rH ow;have SI:=ah (wP _ (.slice qq N kk) ids w4 (by rw[HX.out.1];exact hu) hv);have hb4:=ah (HB3.out.trans (G4.sx.bel.mono HB3.out.size));clear ID hu G4 ow hv;go_wp2_with fail;refine SI.out.mono ?_;rintro r w5 ⟨rfl,hb5⟩;go_wp2;go_ret;exact⟨rfl,hb4.out.trans (hb5.mono hb4.out.size)⟩
