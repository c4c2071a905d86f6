/- Lemmas. -/
import Derived.Test.YtehhldljdakgeaaGreatDoorQb01
import Derived.Test.YtehhldljdakgeaaGreatDoorQb14
set_option linter.unusedSimpArgs false
set_option linter.unusedVariables false
set_option maxHeartbeats 16000000
set_option maxRecDepth 100000
namespace Go.Proofs.YtehhldljdakgeaaGreatDoor
open Go.RowKit Go.Maps Go.Proofs.Tryz
attribute [local go_sem ↓] aJ aK
def tK (M:List Nat):List Value:=M.map fun m=>.pointer (some ⟨m,0,none⟩)
theorem qI (M:List Nat):(tK M).length=M.length:=by simp[tK]
theorem BX {M:List Nat} {j m:Nat} (h:M[j]?=some m):(tK M)[j]?=some (.pointer (some ⟨m,0,none⟩)):=by simp[tK,h]
structure RZ (X:List Nat) (w:World) (pm gN:Nat) (mn lw hi:Int) (O:List (List Int)) (M:List Nat) (L:List Nd):Prop where
 z: ∃(vP vN:Value) (kn ko:Nat) (qo:Option Addr),jR w pm [vP,vN,.int .i64 mn,.int .i64 lw,.int .i64 hi,.slice (some ⟨gN,0,none⟩) L.length kn,.slice qo L.length ko]∧L.length≤kn∧kn≤maxLen∧CZ X w (.slice qo L.length ko) O
 nodes:jR w gN (tK M)
 len:M.length=L.length
 bud: ∀(i m:Nat) (x:Nd),M[i]?=some m→L[i]?=some x→∃vF vT,wS X w m x.n vF vT x.F x.T
 inv: ∀x∈L,Inv x.n x.F x.T
 mem:pm∈X∧gN∈X
 ne:pm≠gN∧pm∉M∧gN∉M∧M.Nodup
 ord:rM O L.length
 m0:0≤mn∧mn≤lw∧lw≤hi∧hi≤9223372036854775807
theorem RZ.keep {X S:List Nat} {w w':World} {pm gN:Nat} {mn lw hi:Int} {O:List (List Int)} {M:List Nat} {L:List Nd} (h:RZ X w pm gN mn lw hi O M L) (k:Keep S w w') (hs: ∀s∈S,(s∈X∧s≠pm∧s≠gN∧s∉M)∨w.heap.size≤s):RZ X w' pm gN mn lw hi O M L:=by
 obtain⟨vP,vN,kn,ko,qo,h1,h2,h3,h4⟩:=h.z;have np:pm∉S:=fun q=>by rcases hs pm q with r|r;(·exact r.2.1 rfl);(·have:=h1.lt;omega)
 have ng:gN∉S:=fun q=>by rcases hs gN q with r|r;(·exact r.2.2.1 rfl);(·have:=h.nodes.lt;omega)
 have hX: ∀s∈S,s∈X∨w.heap.size≤s:=fun s q=>(hs s q).imp (fun r=>r.1) id
 refine⟨⟨vP,vN,kn,ko,qo,h1.keep k np,h2,h3,h4.keep k hX⟩,h.nodes.keep k ng,h.len,fun i m x hm hx=> ?_,h.inv,h.mem,h.ne,h.ord,h.m0⟩;obtain⟨vF,vT,hb⟩:=h.bud i m x hm hx;exact⟨vF,vT,hb.keep k fun s q=>(hs s q).imp (fun r=>⟨r.1,fun e=>r.2.2.2 (e▸aF hm)⟩) id⟩
theorem RZ.below {X:List Nat} {w w':World} {pm gN:Nat} {mn lw hi:Int} {O:List (List Int)} {M:List Nat} {L:List Nd} (h:RZ X w pm gN mn lw hi O M L) (k:Below w.heap.size w w'):RZ X w' pm gN mn lw hi O M L:=h.keep (Keep.of (S:=[]) k) (fun s q=>by cases q)
theorem RZ.more {X Y:List Nat} {w:World} {pm gN:Nat} {mn lw hi:Int} {O:List (List Int)} {M:List Nat} {L:List Nd} (h:RZ X w pm gN mn lw hi O M L) (hX: ∀x∈X,x∈Y) (hY: ∀y∈Y,y∈X∨w.heap.size≤y):RZ Y w pm gN mn lw hi O M L:=by
 obtain⟨vP,vN,kn,ko,qo,h1,h2,h3,h4⟩:=h.z;refine⟨⟨vP,vN,kn,ko,qo,h1,h2,h3,h4.more hY⟩,h.nodes,h.len,fun i m x hm hx=> ?_,h.inv,⟨hX _ h.mem.1,hX _ h.mem.2⟩,h.ne,h.ord,h.m0⟩;obtain⟨vF,vT,hb⟩:=h.bud i m x hm hx;exact⟨vF,vT,hb.more (hX _ hb.mem) hY⟩
theorem RZ.lt {X:List Nat} {w:World} {pm gN:Nat} {mn lw hi:Int} {O:List (List Int)} {M:List Nat} {L:List Nd} (h:RZ X w pm gN mn lw hi O M L) {m:Nat} (hm:m∈M):m<w.heap.size:=by
 obtain⟨i,hi⟩:=dA hm;have hl:=(au.1 hi).1;obtain⟨vF,vT,hb⟩:=h.bud i m _ hi (aA (show i<L.length by rw[←h.len];exact hl));exact hb.lt
theorem uZ {X:List Nat} (pm gN:Nat) (mn lw hi:Int) (O:List (List Int)) (M:List Nat) (L:List Nd) (v:Int) (w:World) (h:RZ X w pm gN mn lw hi O M L):
 Calls prog 61 #[.pointer (some ⟨pm,0,none⟩),.int .i64 v] w fun e w'=>e= .returned (.bool (decide (0≤v∧v<L.length)))∧Below w.heap.size w w':=by
 obtain⟨vP,vN,kn,ko,qo,h1,h2,h3,h4⟩:=h.z;have c5:=h1.gC 5;have cl:=h1.lt;unfold maxLen at h3;clear h h1 h4;by_cases v0:0≤v
 ·by_cases v1:v<L.length
  ·rw[dQt (show 0≤v∧v<L.length from⟨v0,v1⟩)]
   have d0:decide (0≤v)=true:=dQt v0;have d1:decide (v<(L.length:Int))=true:=dQt v1;go_in
   go_wp2;go_ret;exact⟨rfl,jY⟩
  ·rw[dQf (show¬(0≤v∧v<L.length) from fun q=>v1 q.2)]
   have d0:decide (0≤v)=true:=dQt v0;have d1:decide (v<(L.length:Int))=false:=dQf v1;go_in
   go_wp2;go_ret;exact⟨rfl,jY⟩
 ·rw[dQf (show¬(0≤v∧v<L.length) from fun q=>v0 q.1)]
  have d0:decide (0≤v)=false:=dQf v0;go_in
  go_wp2;go_ret;exact⟨rfl,jY⟩
def RGivePost (X:List Nat) (pm gN:Nat) (mn lw hi:Int) (O:List (List Int)) (M:List Nat) (w:World) (r:List Nd×Nat) (e:Ending) (w':World):Prop:=
 e= .returned (.int .i64 r.2)∧RZ X w' pm gN mn lw hi O M r.1∧Keep M w w'
theorem Wj (M:List Nat) (j m:Nat):tK (M.set j m)=(tK M).set j (.pointer (some ⟨m,0,none⟩)):=by simp[tK,List.map_set]
theorem Ic: ∀{M:List Nat} {j m:Nat},M.Nodup→m∉M→(M.set j m).Nodup
 |[],j,m,_,_=>sI
 |a::M,0,m,h,hm=>by
  simp at hm h ⊢;exact⟨hm.2,h.2⟩
 |a::M,j+1,m,h,hm=>by
  simp only[jg,aS] at h ⊢;refine⟨fun q=> ?_,Ic h.2 (fun q=>hm (ak _ q))⟩;rcases dF q with r|r
  ·exact h.1 r
  ·exact hm (r▸aG ..)
theorem RZ.swap {X:List Nat} {w w':World} {pm gN:Nat} {mn lw hi:Int} {O:List (List Int)} {M:List Nat} {L:List Nd} (h:RZ X w pm gN mn lw hi O M L) {j m':Nat} {x:Nd} (hx:L[j]?=some x) (hm':w.heap.size≤m') {F T:List (Int×Int)} {vF vT:Value} (hb:wS (m'::X) w' m' x.n vF vT F T) (hI:Inv x.n F T) (k:Keep [gN] w w') (hg:jR w' gN ((tK M).set j (.pointer (some ⟨m',0,none⟩)))):
 RZ (m'::X) w' pm gN mn lw hi O (M.set j m') (L.set j ⟨x.pb,x.bf,x.bt,x.n,F,T⟩):=by
 have il:=(au.1 hx).1;have nlt:=h.nodes.lt;have h':=h.more (Y:=m'::X) (fun y hy=>ak _ hy) (fun y hy=>by simp at hy;rcases hy with rfl|hy;(·exact .inr hm');(·exact .inl hy));obtain⟨vP,vN,kn,ko,qo,h1,h2,h3,h4⟩:=h'.z;obtain⟨n1,n2,n3,n4⟩:=h.ne;have nM:m'∉M:=fun q=>by have:=h.lt q;omega
 have np:m'≠pm:=fun q=>by have:=h1.lt;omega
 have ng:m'≠gN:=fun q=>om
 refine⟨⟨vP,vN,kn,ko,qo,by rw[cu];exact h1.keep k (by simpa using n1),by rw[cu];exact h2,h3,by rw[cu];exact h4.keep k (fun s q=>by simp at q;subst q;exact .inl h'.mem.2)⟩,by rw[Wj];exact hg,by simp[h.len],fun i m y hm hy=> ?_,fun y hy=> ?_,h'.mem,⟨n1,?_,?_,?_⟩,by rw[cu];exact h.ord,h.m0⟩
 ·by_cases e:j=i
  ·subst e
   rw[aZ (by rw[h.len];exact il)] at hm;obtain rfl:=aO hm;rw[aZ il] at hy;obtain rfl:=aO hy;exact⟨vF,vT,hb⟩
  ·rw[bQ e] at hm hy
   obtain⟨vF',vT',hb'⟩:=h'.bud i m y hm hy;have hmg:m≠gN:=fun q=>n3 (q▸aF hm)
   exact⟨vF',vT',hb'.keep k fun s q=>by simp at q;subst q;exact .inl ⟨h'.mem.2,fun r=>hmg r.symm⟩⟩
 ·rcases dF hy with q|q
  ·exact h.inv y q
  ·subst q;exact hI
 ·intro q;rcases dF q with r|r;(·exact n2 r);(·exact np r.symm)
 ·intro q;rcases dF q with r|r;(·exact n3 r);(·exact ng r.symm)
 ·exact Ic n4 nM
def vB (X:List Nat) (pm gN:Nat) (mn lw hi:Int) (O:List (List Int)) (M:List Nat) (w:World) (r:List Nd×Nat×Pl) (e:Ending) (w':World):Prop:=
 e= .returned (.tuple #[plV r.2.2,.int .i64 r.2.1])∧(∃X' M',RZ X' w' pm gN mn lw hi O M' r.1∧(∀x∈X,x∈X')∧(∀x∈X',x∈X∨w.heap.size≤x)∧(∀x∈X',x<w'.heap.size)∧∀m∈M',m∈M∨w.heap.size≤m)∧Keep [gN] w w'
theorem yw {X:List Nat} {pm gN:Nat} {mn lw hi:Int} {O:List (List Int)} {M:List Nat} {L:List Nd} {w w':World} (h:RZ X w pm gN mn lw hi O M L) (hX: ∀x∈X,x<w.heap.size) (hb:Below w.heap.size w w') {r:List Nd×Nat×Pl} (hr:r.1=L) {e:Ending} (he:e= .returned (.tuple #[plV r.2.2,.int .i64 r.2.1])):vB X pm gN mn lw hi O M w r e w':=
 ⟨he,⟨X,M,by rw[hr];exact h.below hb,fun _ h=>h,fun _ h=>.inl h,fun x hx=>aC (hX x hx) hb.size,fun _ h=>.inl h⟩,Keep.of hb⟩
theorem Tg {X:List Nat} (pm gN:Nat) (mn lw hi:Int) (O:List (List Int)) (M:List Nat) (L:List Nd) (v k:Int) (u:Bool) (w:World) (h:RZ X w pm gN mn lw hi O M L) (hX: ∀x∈X,x<w.heap.size) (hv:v<0∨(L.length:Int)≤v∨k<0∨6<k):
 Calls prog 113 #[.pointer (some ⟨pm,0,none⟩),.int .i64 v,.int .i64 k,.bool u] w (vB X pm gN mn lw hi O M w (lQ mn O L v k u)):=by
 have b0:Below w.heap.size w (w.alloc (.cells [.int .i64 0,.int .i64 0,.int .i64 0].toArray 215)):=jY;have L0:=ah (jR.mk_ w [.int .i64 0,.int .i64 0,.int .i64 0] 215 rfl);have NO:=ah (uZ pm gN mn lw hi O M L v _ (h.below b0));have HH:=ah h;have HX:=ah hX;have HB0:=ah b0;have HT:=ah (Bw (mn:=mn) (O:=O) (u:=u) hv);have hcase:(0≤v∧v<L.length)→(0≤k∧k≤6)→False:=om;clear h hX hv b0;by_cases hv:0≤v∧v<L.length;all_goals by_cases hk:0≤k∧k≤6
 ·exact absurd hk (fun q=>hcase hv q)
 all_goals
  first|rw[dQt hv] at NO|rw[dQf hv] at NO
  have OD:Hid (∀W,Calls prog 140 #[.int .i64 k] W fun e w'=>e= .returned (.bool (decide (0≤k∧k≤6)))∧W=w'):=fun W=>Bf k W
  first|rw[dQt hk] at OD|rw[dQf hk] at OD
  clear hcase hv hk;go_in
  go_wp2_with fail;refine NO.out.mono ?_;rintro e w1 ⟨rfl,hb1⟩;have K1:Below w.heap.size w w1:=HB0.out.trans (hb1.mono sI);have P:=L0.out.go hb1;have p0:=P.gC 0;have p1:=P.gC 1;have p2:=P.gC 2;have f0:=P.f 0 sI;have f1:=P.f 1 sI;have f2:=P.f 2 sI;have pl:=P.lt;have LF:=ah (P.xM (.int .i64 0) (.int .i64 0) (.int .i64 0));clear P;go_wp2_with fail;refine(OD.out _).mono ?_;rintro e w2 ⟨rfl,rfl⟩;go_wp2;have e0:=LF.out.gC 0;have e1:=LF.out.gC 1;have e2:=LF.out.gC 2;exact bodyPost_ret (v:=.tuple #[plV (0,0,0),.int .i64 2]) (by simp[e0,e1,e2,results,iZ,go_sem,plV]) rfl (yw HH.out HX.out (Keep.rA (kep (Keep.of K1))) (by rw[HT.out]) (by rw[HT.out];rfl))
def Cb (k:Int) (L:List Nd) (j:Int):Bool:=match L[j.toNat]? with|some x=>yH k x|none=>false
theorem any_all {k:Int} {L:List Nd} {D:List Int} (h: ∀x:Int,x∈D↔0≤x∧x<L.length):D.any (Cb k L)=L.any (yH k):=by
 rw[Bool.eq_iff_iff,fA,fA];constructor
 ·rintro⟨j,hj,hh⟩
  unfold Cb at hh;split at hh
  ·rename_i x hx
   exact⟨x,aF hx,hh⟩
  ·cases hh
 ·rintro⟨x,hx,hh⟩
  obtain⟨i,hi⟩:=dA hx;have:=(au.1 hi).1;refine⟨(i:Int),(h _).2 ⟨om,om⟩,?_⟩;unfold Cb;rw[bS,hi];exact hh
theorem Ie {α:Type} {p:α→Bool} {D:List α} {t:Nat} {z:α} (hz:D[t]?=some z):(D.take (t+1)).any p=((D.take t).any p||p z):=tF hz
theorem Ey {k:Int} {x:Nd}:yH k x=(nD k x.F).isSome:=by unfold yH;rw[GX]
theorem rhit {X:List Nat} {pm gN:Nat} {mn lw hi:Int} {O:List (List Int)} {M:List Nat} {L:List Nd} {w w3 w6 w7:World} {r:List Nd×Nat×Pl} {k:Int} {zn m':Nat} {x:Nd} {b:Int×Int} {vF vT:Value} (hr:r=(L.set (zn:Int).toNat (y7 k b x),0,((zn:Int),b.1,k)))
 (h:RZ X w pm gN mn lw hi O M L) (hX: ∀y∈X,y<w.heap.size) (hx:L[zn]?=some x) (hm:w.heap.size<m') (hb:wS (m'::w.heap.size::X) w3 m' x.n vF vT (uz k b x.F) (rC b.1 k x.T)) (hI:Inv x.n (uz k b x.F) (rC b.1 k x.T)) (B06:Below w.heap.size w w6) (B36:Below w3.heap.size w3 w6) (hN:jR w6 gN (tK M))
 (e7:w7=(((w6.setCell ⟨gN,zn,none⟩ (.pointer (some ⟨m',0,none⟩))).setCell ⟨w.heap.size,0,none⟩ (.int .i64 zn)).setCell ⟨w.heap.size,1,none⟩ (.int .i64 b.1)).setCell ⟨w.heap.size,2,none⟩ (.int .i64 k)):
 vB X pm gN mn lw hi O M w r (.returned (.tuple #[plV ((zn:Int),b.1,k),.int .i64 0])) w7:=by
 have il:=(au.1 hx).1;have gw:gN<w.heap.size:=h.nodes.lt;have k67:Keep [gN,w.heap.size] w6 w7:=by
  rw[e7];exact((((Keep.refl _ _).setCell (p:=⟨gN,zn,none⟩) (.inl sI) _).setCell (p:=⟨w.heap.size,0,none⟩) (.inl sI) _).setCell (p:=⟨w.heap.size,1,none⟩) (.inl sI) _).setCell (p:=⟨w.heap.size,2,none⟩) (.inl sI) _
 have kw7:Keep [gN] w w7:=by
  rw[e7];exact((((Keep.of B06).setCell (p:=⟨gN,zn,none⟩) (.inl sI) _).setCell (p:=⟨w.heap.size,0,none⟩) (.inr (aI _)) _).setCell (p:=⟨w.heap.size,1,none⟩) (.inr (aI _)) _).setCell (p:=⟨w.heap.size,2,none⟩) (.inr (aI _)) _
 have hN7:jR w7 gN ((tK M).set zn (.pointer (some ⟨m',0,none⟩))):=by
  rw[e7];exact(((hN.store zn (.pointer (some ⟨m',0,none⟩)) (by rw[qI,h.len];exact il)).far om 0 _).far om 1 _).far om 2 _
 have mlt:=hb.lt;have hmw:m'≠w.heap.size:=om;have hb7:wS (m'::w.heap.size::X) w7 m' x.n vF vT (uz k b x.F) (rC b.1 k x.T):=(hb.below B36).keep k67 (fun s hs=>by
  simp at hs;rcases hs with rfl|rfl
  ·exact .inl ⟨by simp[h.mem.2],om⟩
  ·exact .inl ⟨sI,fun q=>hmw q.symm⟩)
 have hb8:wS (m'::X) w7 m' x.n vF vT (uz k b x.F) (rC b.1 k x.T):=hb7.sub sI (fun y hy=>by simp at hy ⊢;rcases hy with rfl|hy;(·exact .inl rfl);(·exact .inr (.inr hy)));subst hr;refine⟨rfl,⟨m'::X,M.set zn m',?_,fun y hy=>ak _ hy,fun y hy=> ?_,fun y hy=> ?_,fun y hy=> ?_⟩,kw7⟩
 ·rw[bS]
  exact h.swap hx om hb8 hI kw7 hN7
 ·simp at hy;rcases hy with rfl|hy
  ·exact .inr om
  ·exact .inl hy
 ·simp at hy;rcases hy with rfl|hy
  ·exact hb8.lt
  ·exact aC (hX y hy) kw7.size
 ·rcases dF hy with q|q
  ·exact .inl q
  ·subst q;exact .inr om
theorem JQ {X:List Nat} (pm gN:Nat) (mn lw hi:Int) (O:List (List Int)) (M:List Nat) (L:List Nd) (v:Nat) (k:Int) (u:Bool) (w:World) (h:RZ X w pm gN mn lw hi O M L) (hX: ∀x∈X,x<w.heap.size) (hv:v<L.length) (k0:0≤k) (k6:k≤6):
 Calls prog 113 #[.pointer (some ⟨pm,0,none⟩),.int .i64 v,.int .i64 k,.bool u] w (vB X pm gN mn lw hi O M w (lQ mn O L v k u)):=by
 obtain⟨D,hD,hDl,hDm⟩:=h.ord.get hv;have hnn: ¬((v:Int)<0∨(L.length:Int)≤(v:Int)∨k<0∨6<k):=om;have TNO:Hid (wK mn k u L D=none→lQ mn O L v k u=(L,Eh k L,(0,0,0))):=fun hp=>FB hnn (by simpa using hD) hp
 have TYES:Hid (∀(j:Int) (x:Nd) (b:Int×Int),wK mn k u L D=some j→L[j.toNat]?=some x→nD k x.F=some b→lQ mn O L v k u=(L.set j.toNat (y7 k b x),0,(j,b.1,k))):=fun j x b hp hx hb=>Bz hnn (by simpa using hD) hp hx hb
 have b0:Below w.heap.size w (w.alloc (.cells [.int .i64 0,.int .i64 0,.int .i64 0].toArray 215)):=jY;have L0:=ah (jR.mk_ w [.int .i64 0,.int .i64 0,.int .i64 0] 215 rfl);have NO:=uZ pm gN mn lw hi O M L v _ (h.below b0);rw[dQt (show 0≤(v:Int)∧(v:Int)<L.length by omega)] at NO;have NO:=ah NO;have HH:=ah h;have HX:=ah hX;have HB0:=ah b0;have HD:=ah hD;have HDM:=ah hDm;have HDL:=ah hDl;obtain⟨vP,vN,kn,ko,qo,hz,hk1,hk2,hrr⟩:=h.z;obtain⟨p,cap,ep,hc1,hc2,hcn⟩:=hrr.form;rw[h.ord.1] at ep hc1;injection ep with ep1 ep2 ep3;subst ep1 ep3;obtain⟨gO,oO,uD,rfl,_,hgO,hcu,hu⟩:=hcn v D hD;obtain⟨pD,kD,rfl,hkD,hmD,hcD⟩:=hu.int;obtain⟨gD,oD,rfl,_,hgD,hz0⟩:=hcD 0 _ (aA om);clear hz0;have HCD:Hid (∀t z,D[t]?=some z→w.cell? ⟨gD,oD+t,none⟩=some (.int .i64 z)):=fun t z hz=>by
  obtain⟨g',o',e,_,_,q⟩:=hcD t z hz;injection e with e;injection e with ea eb;subst ea eb;exact q
 have HZ:=ah hz;have HCU:=ah hcu;have zl:=hz.lt;have v0:(0:Int)≤(v:Int):=om;have v1:(v:Int)<(L.length:Int):=om;rw[hDl] at hkD HCU;unfold maxLen at hk2 hc2 hmD;clear h hX b0 hD hDm hDl hnn hz hrr hcn hcu hu hcD;go_in
 go_wp2_with fail;refine NO.out.mono ?_;rintro e w1 ⟨rfl,hb1⟩;have K1:Below w.heap.size w w1:=HB0.out.trans (hb1.mono sI);have z1:=hb1.size;simp at z1;have P1:=ah (L0.out.go hb1);clear NO L0 HB0 hb1;go_wp2_with (go_at_call 140;refine(Jk _ _ ⟨k0,k6⟩).mono ?_;rintro e w' ⟨rfl,rfl⟩);go_loopw [12,13] (fun lv iv wr=>∃t:Nat,t≤L.length∧iv= .int .i64 t∧lv= .bool ((D.take t).any (Cb k L))∧Hid (∀z∈D.take t,D5 mn k u L z=false)∧Below w1.heap.size w1 wr) (fun _ iv _=>L.length-(intOf iv).toNat);case atStart=>exact⟨0,bq _,by go_num,sI,(show∀z∈D.take 0,D5 mn k u L z=false from sI),aL _ _⟩
 case round=>
  obtain⟨t,ht,rfl,rfl,NOK,hbel⟩:=hrel;have zr:=hbel.size;have KR:Below w.heap.size w wr:=K1.trans (hbel.mono om);have hZr:=HZ.out.go KR;have c5:=hZr.gC 5;have c6:=hZr.gC 6;have cl:=hZr.lt;by_cases hlt:t<L.length
  ·obtain⟨z,hz⟩: ∃z,D[t]?=some z:=⟨D[t]'(by rw[HDL.out];exact hlt),aA _⟩
   have hzm:=(HDM.out z).1 (aF hz);obtain⟨zn,rfl⟩: ∃zn:Nat,z=zn:=⟨z.toNat,om⟩;obtain⟨x,hx⟩: ∃x,L[zn]?=some x:=⟨L[zn]' om,aA _⟩;obtain⟨m,hm⟩: ∃m,M[zn]?=some m:=⟨M[zn]'(by rw[HH.out.len];omega),aA _⟩;have r0:=(KR.cell (p:=⟨gO,oO+v,none⟩) hgO).trans HCU.out;have r1:=(KR.cell (p:=⟨gD,oD+t,none⟩) hgD).trans (HCD.out t _ hz);have n0:=(HH.out.nodes.go KR).c zn _ (BX hm);have nl:=(HH.out.nodes.go KR).lt;have zO:gO<wr.heap.size:=om;have zD:gD<wr.heap.size:=om;have t0:(0:Int)≤(t:Int):=om;have t1:(t:Int)<(L.length:Int):=om;have y0:(0:Int)≤(zn:Int):=om;have y1:(zn:Int)<(L.length:Int):=om;obtain⟨vF,vT,hbud0⟩:=HH.out.bud zn m x hm hx;have Gt:=(hbud0.more (Y:=w.heap.size::X) (ak _ hbud0.mem) (fun y hy=>by simp at hy;rcases hy with rfl|hy;(·exact .inr (aI _));(·exact .inl hy))).below KR;have hI:=HH.out.inv x (aF hx);have hXr: ∀y∈w.heap.size::X,y<wr.heap.size:=fun y hy=>by simp at hy;rcases hy with rfl|hy;(·omega);(·exact aC (HX.out y hy) KR.size)
   have OW:=ah (own_ok m x.n vF vT x.F x.T wr Gt hXr hI.lenF hI.lenT);have HI:=ah hI;have HXr:=ah hXr;have HX1:=ah hx;have HM1:=ah hm;have HZ1:=ah hz;clear hx hm Gt hbud0 hI hXr hz hZr;go_wp2_with fail;refine OW.out.mono ?_;rintro e w2 ⟨m',vF',vT',rfl,hb',hm',hb2⟩;have z2:=hb2.size;have RT:=ah (Tf (X:=m'::w.heap.size::X) m' x.n vF' vT' x.F x.T k w2 hb' (fun y hy=>by rcases aB.1 hy with rfl|hy;(·exact hb'.lt);(·exact aC (HXr.out y hy) z2)) HI.out k0);have HB':=ah hb';clear OW hb' r0 r1 n0;go_wp2_with fail;refine RT.out.mono ?_;rintro e w3 (⟨hbn,rfl,hb3⟩|⟨b,vF2,vT2,hbb,rfl,hr3,hk3⟩)
   ·have hs:yH k x=false:=by rw[Ey,hbn];rfl
    have hha:Cb k L (zn:Int)=false:=by unfold Cb;rw[bS,HX1.out];exact hs
    have hno:D5 mn k u L (zn:Int)=false:=by unfold D5;rw[bS,HX1.out];simp[okN,hbn]
    have NOK2:=ah (wN NOK.out HZ1.out hno);have AN:=ah (Ie (p:=Cb k L) HZ1.out);rw[hha,Bool.or_false] at AN;have K3:Below w1.heap.size w1 w3:=hbel.trans ((hb2.trans (hb3.mono z2)).mono zr);have z3:=K3.size;clear hs hha hno hbn RT;go_wp2;go_roundw;case rel=>exact⟨t+1,om,by go_num,by rw[AN.out],NOK2,jY⟩
    case measure=>simp[intOf];omega
   ·have hs:yH k x=true:=by rw[Ey,hbb];rfl
    have hha:Cb k L (zn:Int)=true:=by unfold Cb;rw[bS,HX1.out];exact hs
    have AN:=ah (Ie (p:=Cb k L) HZ1.out);rw[hha,Bool.or_true] at AN;have hsum:=HI.out.Fv k0 hbb;have hI2:=HI.out.take k0 hbb;have s0:=HI.out.sumF.1;have s1:oJ x.F≤256:=by have:=HI.out.sumF.2;have:=HI.out.n2;omega
    have s2:=(xS k0 k6);have K3:Below w.heap.size w w3:=(KR.trans (hb2.mono KR.size)).trans (hk3.below (by have:=KR.size;omega) (fun s hs=>by simp at hs;omega));have B13:Below w1.heap.size w1 w3:=(hbel.trans (hb2.mono zr)).trans (hk3.below om (fun s hs=>by simp at hs;omega));have z3:=B13.size;have hmay:mayN mn k u x=(u||decide (mn≤oJ x.F-sz k)):=rfl;have FP:=ah (fun(p:Behind (w3.alloc (.cells [.int .i64 b.1,.int .i64 k].toArray 213)))=>Ib m' x.n vF2 vT2 (uz k b x.F) (rC b.1 k x.T) p.w' ((hr3.below ((aL _ _).alloc (aI _) _)).below p.h) hI2);rw[hsum] at FP;have HR3:=ah hr3;have HBB:=ah hbb;have OKD:Hid (mayN mn k u x=true→D5 mn k u L (zn:Int)=true):=fun q=>by unfold D5;rw[bS,HX1.out];simp[okN,q,HBB.out]
    have OKN:Hid (mayN mn k u x=false→D5 mn k u L (zn:Int)=false):=fun q=>by unfold D5;rw[bS,HX1.out];simp[okN,q]
    have hZ3:=HZ.out.go K3;have d2:=hZ3.gC 2;have d3l:=hZ3.lt;obtain⟨b1,b2⟩:=b;simp only at FP;have b61:Below w3.heap.size w3 (w3.alloc (.cells [.int .i64 b1,.int .i64 k].toArray 213)):=jY;rw[hmay] at OKD OKN;clear hs hha hsum hI2 hr3 hbb hZ3 hmay RT hk3 c5 c6;cases u with
    |true=>
     have OKA:=ah (OKD.out rfl);go_wp2_with fail;go_quiet (fail)
     ·obtain⟨w6,hw6⟩:=eY ((w3.alloc (.cells #[.int .i64 b1,.int .i64 k] 213)).drewN nq)
      rw[←hw6];have B6:Below (w3.alloc (.cells [.int .i64 b1,.int .i64 k].toArray 213)).heap.size (w3.alloc (.cells [.int .i64 b1,.int .i64 k].toArray 213)) w6:=by rw[hw6];exact below_drewN (aL _ _) _
      clear hw6;have B06:Below w.heap.size w w6:=K3.trans ((b61.trans (B6.mono sI)).mono K3.size);have B16:Below w1.heap.size w1 w6:=B13.trans ((b61.trans (B6.mono sI)).mono B13.size);have B36:Below w3.heap.size w3 w6:=b61.trans (B6.mono sI);have z36:=B36.size;have hZ6:=HZ.out.go B06;have d5:=hZ6.gC 5;have dl:=hZ6.lt;have N6:=HH.out.nodes.go B06;have n0:=N6.c zn _ (BX HM1.out);have nf:=N6.f zn (by rw[qI,HH.out.len];omega);have nl6:=N6.lt;have T6:=(jR.mk_ w3 [.int .i64 b1,.int .i64 k] 213 rfl).go B6;have t60:=T6.gC 0;have t61:=T6.gC 1;have t6l:=T6.lt;have P6:=P1.out.go B16;have p0:=P6.gC 0;have p1:=P6.gC 1;have p2:=P6.gC 2;have f0:=P6.f 0 sI;have f1:=P6.f 1 sI;have f2:=P6.f 2 sI;have pl:=P6.lt;have gw:gN<w.heap.size:=HH.out.nodes.lt;have ne1: ¬(gN=w.heap.size):=om;have ne2: ¬(w.heap.size=gN):=om;have ne3: ¬(w3.heap.size=gN):=om;have ne4: ¬(gN=w3.heap.size):=om;have ne5: ¬(w3.heap.size=w.heap.size):=om;have ne6: ¬(w.heap.size=w3.heap.size):=om;have HN6:=ah N6;have HP6:=ah P6;have HB06:=ah B06;have HB36:=ah B36;clear hZ6 N6 T6 P6 B06 B16 B36 B6 b61;go_wp2;have LF:=(HP6.out.far ne1 zn (.pointer (some ⟨m',0,none⟩))).xM (.int .i64 zn) (.int .i64 b1) (.int .i64 k);have e0:=LF.gC 0;have e1:=LF.gC 1;have e2:=LF.gC 2;refine bodyPost_ret (v:=.tuple #[plV (zn,b1,k),.int .i64 0]) (by simp[e0,e1,e2,results,iZ,go_sem,plV]) rfl ?_;exact rhit (TYES.out _ x (b1,b2) (Jt NOK.out HZ1.out OKA.out) (by rw[bS];exact HX1.out) HBB.out) HH.out HX.out HX1.out om HR3.out (HI.out.take k0 HBB.out) HB06.out HB36.out HN6.out rfl
    |false=>
     by_cases hmn:mn≤oJ x.F-sz k
     ·have hlt':decide (oJ x.F-sz k<mn)=false:=dQf om
      have OKA:=ah (OKD.out (by simp[hmn]));go_wp2_with fail;refine kG kR kR ?_;repeat(go_big_quiet_step (((go_at_call 143;exact Calls.behind (FP.out _)))))
      refine wpQuiet_nil ?_;intro w6 hw';have hb6:=lN hw';clear hw';have z6:=hb6.size;try simp at z6
      have B6:=hb6;have B06:Below w.heap.size w w6:=K3.trans ((b61.trans (B6.mono sI)).mono K3.size);have B16:Below w1.heap.size w1 w6:=B13.trans ((b61.trans (B6.mono sI)).mono B13.size);have B36:Below w3.heap.size w3 w6:=b61.trans (B6.mono sI);have z36:=B36.size;have hZ6:=HZ.out.go B06;have d5:=hZ6.gC 5;have dl:=hZ6.lt;have N6:=HH.out.nodes.go B06;have n0:=N6.c zn _ (BX HM1.out);have nf:=N6.f zn (by rw[qI,HH.out.len];omega);have nl6:=N6.lt;have T6:=(jR.mk_ w3 [.int .i64 b1,.int .i64 k] 213 rfl).go B6;have t60:=T6.gC 0;have t61:=T6.gC 1;have t6l:=T6.lt;have P6:=P1.out.go B16;have p0:=P6.gC 0;have p1:=P6.gC 1;have p2:=P6.gC 2;have f0:=P6.f 0 sI;have f1:=P6.f 1 sI;have f2:=P6.f 2 sI;have pl:=P6.lt;have gw:gN<w.heap.size:=HH.out.nodes.lt;have ne1: ¬(gN=w.heap.size):=om;have ne2: ¬(w.heap.size=gN):=om;have ne3: ¬(w3.heap.size=gN):=om;have ne4: ¬(gN=w3.heap.size):=om;have ne5: ¬(w3.heap.size=w.heap.size):=om;have ne6: ¬(w.heap.size=w3.heap.size):=om;have HN6:=ah N6;have HP6:=ah P6;have HB06:=ah B06;have HB36:=ah B36;clear hZ6 N6 T6 P6 B06 B16 B36 B6 b61;go_wp2;have LF:=(HP6.out.far ne1 zn (.pointer (some ⟨m',0,none⟩))).xM (.int .i64 zn) (.int .i64 b1) (.int .i64 k);have e0:=LF.gC 0;have e1:=LF.gC 1;have e2:=LF.gC 2;refine bodyPost_ret (v:=.tuple #[plV (zn,b1,k),.int .i64 0]) (by simp[e0,e1,e2,results,iZ,go_sem,plV]) rfl ?_;exact rhit (TYES.out _ x (b1,b2) (Jt NOK.out HZ1.out OKA.out) (by rw[bS];exact HX1.out) HBB.out) HH.out HX.out HX1.out om HR3.out (HI.out.take k0 HBB.out) HB06.out HB36.out HN6.out rfl
     ·have hlt':decide (oJ x.F-sz k<mn)=true:=dQt om
      have NOK2:=ah (wN NOK.out HZ1.out (OKN.out (by simp[hmn])));go_wp2_with fail;refine kG kR kR ?_;repeat(go_big_quiet_step (((go_at_call 143;exact Calls.behind (FP.out _)))))
      refine wpQuiet_nil ?_;intro w6 hw';have hb6:=lN hw';clear hw';have z6:=hb6.size;try simp at z6
      go_wp2;go_roundw;case rel=>exact⟨t+1,om,by go_num,by rw[AN.out],NOK2,B13.trans ((b61.trans (hb6.mono sI)).mono B13.size)⟩
      case measure=>simp[intOf];omega
  ·have et:t=D.length:=by have:=HDL.out;omega
   have hp:wK mn k u L D=none:=V6 (fun z hz=>NOK.out z (by rw[et,bU];exact hz));have TT:=ah (TNO.out hp);have hany:(D.take t).any (Cb k L)=L.any (yH k):=by rw[et,bU];exact any_all HDM.out
   have P:=P1.out.go hbel;have p0:=P.gC 0;have p1:=P.gC 1;have p2:=P.gC 2;have f0:=P.f 0 sI;have f1:=P.f 1 sI;have f2:=P.f 2 sI;have pl:=P.lt;have LF:=ah (P.xM (.int .i64 0) (.int .i64 0) (.int .i64 0));rw[hany];clear hp et hany P;cases hl:L.any (yH k) with
   |true=>
    have hlow:Eh k L=7:=by unfold Eh;rw[if_pos hl]
    have HLO:=ah hlow;clear hl hlow;go_wp2;have e0:=LF.out.gC 0;have e1:=LF.out.gC 1;have e2:=LF.out.gC 2;exact bodyPost_ret (v:=.tuple #[plV (0,0,0),.int .i64 7]) (by simp[e0,e1,e2,results,iZ,go_sem,plV]) rfl (yw HH.out HX.out (Keep.rA (kep (Keep.of KR))) (by rw[TT.out]) (by rw[TT.out,HLO.out];rfl))
   |false=>
    have hlow:Eh k L=5:=by unfold Eh;rw[hl];rfl
    have HLO:=ah hlow;clear hl hlow;go_wp2;have e0:=LF.out.gC 0;have e1:=LF.out.gC 1;have e2:=LF.out.gC 2;exact bodyPost_ret (v:=.tuple #[plV (0,0,0),.int .i64 5]) (by simp[e0,e1,e2,results,iZ,go_sem,plV]) rfl (yw HH.out HX.out (Keep.rA (kep (Keep.of KR))) (by rw[TT.out]) (by rw[TT.out,HLO.out];rfl))
theorem Ti {X:List Nat} (pm gN:Nat) (mn lw hi:Int) (O:List (List Int)) (M:List Nat) (L:List Nd) (v k:Int) (u:Bool) (w:World) (h:RZ X w pm gN mn lw hi O M L) (hX: ∀x∈X,x<w.heap.size):
 Calls prog 113 #[.pointer (some ⟨pm,0,none⟩),.int .i64 v,.int .i64 k,.bool u] w (vB X pm gN mn lw hi O M w (lQ mn O L v k u)):=by
 by_cases hv:v<0∨(L.length:Int)≤v∨k<0∨6<k
 ·exact Tg pm gN mn lw hi O M L v k u w h hX hv
 ·obtain⟨n,rfl⟩: ∃n:Nat,v=n:=⟨v.toNat,om⟩
  exact JQ pm gN mn lw hi O M L n k u w h hX om om om
def Tj (s:Sl) (gt:Nat):List Value:=[.int .i64 s.nd,.int .i64 s.pg,.int .i64 0,.slice (some ⟨gt,0,none⟩) s.T.length s.T.length]
def RSl (w:World) (p:Nat×Nat) (s:Sl):Prop:=jR w p.1 (Tj s p.2)∧jR w p.2 (bools s.T)
def Ez (pc:Nat) (A:SA):List Nat:=pc::ay A
structure RCB (X:List Nat) (w:World) (pc pm e:Nat) (v:Value) (A:SA) (C:List Sl):Prop where
 c:jR w pc [.pointer (some ⟨pm,0,none⟩),.int .i64 e,v]
 row:nO X w v (lW A)
 len:A.length=C.length
 sl: ∀(i:Nat) (p:Nat×Nat) (s:Sl),A[i]?=some p→C[i]?=some s→RSl w p s
 mem: ∀y∈Ez pc A,y∈X
 nd:(Ez pc A).Nodup
 vn:v= .slice none 0 0∨∃g n k,v= .slice (some ⟨g,0,none⟩) n k
section
variable {X Y S M:List Nat} {w w':World} {pc pm gN e:Nat} {mn lw hi:Int} {O:List (List Int)} {v v':Value} {A A':SA} {C:List Sl} {c:Ca} {L':List Nd}
theorem RSl.keep {p:Nat×Nat} {s:Sl} (h:RSl w p s) (k:Keep S w w') (h1:p.1∉S) (h2:p.2∉S):RSl w' p s:=⟨h.1.keep k h1,h.2.keep k h2⟩
theorem RSl.below {p:Nat×Nat} {s:Sl} (h:RSl w p s) (k:Below w.heap.size w w'):RSl w' p s:=h.keep (Keep.of (S:=[]) k) sI sI
theorem RSl.cells {p:Nat×Nat} {s:Sl} (h:RSl w p s):w.cell? ⟨p.1,0,none⟩=some (.int .i64 s.nd)∧w.cell? ⟨p.1,1,none⟩=some (.int .i64 s.pg)∧w.cell? ⟨p.1,2,none⟩=some (.int .i64 0)∧w.cell? ⟨p.1,3,none⟩=some (.slice (some ⟨p.2,0,none⟩) s.T.length s.T.length)∧p.1<w.heap.size∧p.2<w.heap.size:=
 ⟨h.1.gC 0,h.1.gC 1,h.1.gC 2,h.1.gC 3,h.1.lt,h.2.lt⟩
theorem Dl {i:Nat} {p:Nat×Nat} (h:A[i]?=some p):p.1∈ay A∧p.2∈ay A:=⟨su.2 ⟨p,aF h,.inl rfl⟩,su.2 ⟨p,aF h,.inr rfl⟩⟩
theorem RCB.lt (h:RCB X w pc pm e v A C): ∀y∈Ez pc A,y<w.heap.size:=fun y hy=>by
 rcases aB.1 hy with rfl|q
 ·exact h.c.lt
 ·obtain⟨p,hp,hy⟩:=su.1 q
  obtain⟨i,hi⟩:=dA hp;have hl:=(au.1 hi).1;obtain⟨s,hs⟩: ∃s,C[i]?=some s:=⟨C[i]'(by rw[←h.len];exact hl),aA _⟩;have:=h.sl i p s hi hs;rcases hy with rfl|rfl
  ·exact this.1.lt
  ·exact this.2.lt
theorem RCB.keep (h:RCB X w pc pm e v A C) (k:Keep S w w') (hs: ∀s∈S,s∉Ez pc A∧(s∈X∨w.heap.size≤s)):RCB X w' pc pm e v A C:=
 ⟨h.c.keep k (fun q=>(hs _ q).1 (aG ..)),h.row.keep k (fun s q=>(hs s q).2),h.len,fun i p s hp hs'=>(h.sl i p s hp hs').keep k (fun q=>(hs _ q).1 (ak _ (Dl hp).1)) (fun q=>(hs _ q).1 (ak _ (Dl hp).2)),h.mem,h.nd,h.vn⟩
theorem RCB.more (h:RCB X w pc pm e v A C) (hX: ∀x∈X,x∈Y) (hY: ∀y∈Y,y∈X∨w.heap.size≤y):RCB Y w pc pm e v A C:=
 ⟨h.c,h.row.more hY,h.len,h.sl,fun y hy=>hX y (h.mem y hy),h.nd,h.vn⟩
theorem RCB.at (h:RCB X w pc pm e v A C) {i:Nat} {s:Sl} (hs:C[i]?=some s): ∃p,A[i]?=some p∧RSl w p s:=by
 have hl:=(au.1 hs).1;obtain⟨p,hp⟩: ∃p,A[i]?=some p:=⟨A[i]'(by rw[h.len];exact hl),aA _⟩;exact⟨p,hp,h.sl i p s hp hs⟩
theorem own_vn {B n:Nat} {E:TypeId} {s:Nat} {xs:List Value} (h:w.ownsRow B E s v n xs):v= .slice none 0 0∨∃g n k,v= .slice (some ⟨g,0,none⟩) n k:=by
 rcases h.2 with⟨e,_⟩|⟨g,cap,cur,e,_⟩
 ·exact .inl e
 ·exact .inr ⟨g,n,cap,e⟩
theorem RCB.form (h:RCB X w pc pm e v A C): ∃q k,v= .slice q C.length k∧C.length≤k∧k≤maxLen∧∀(j:Nat) (p:Nat×Nat),A[j]?=some p→∃g o,q=some ⟨g,o,none⟩∧g<w.heap.size∧w.cell? ⟨g,o+j,none⟩=some (.pointer (some ⟨p.1,0,none⟩)):=by
 obtain⟨q,k,e,h1,h2,h3⟩:=h.row.form;rw[sj,h.len] at e h1;refine⟨q,k,e,h1,h2,fun j p hp=> ?_⟩;obtain⟨g,o,e1,_,e2,e3⟩:=h3 j _ (BI hp);exact⟨g,o,e1,e2,e3⟩
theorem RCB.use (h:RCB X w pc pm e v A C) {i:Nat} {p:Nat×Nat} {s:Sl} (hp:A[i]?=some p) (hC:C[i]?=some s) {k:Nat} (b:Bool) (hk:k<s.T.length):
 RCB X (w.setCell ⟨p.2,k,none⟩ (.bool b)) pc pm e v A (C.set i (oH s k b)):=by
 have kk:Keep [p.2] w (w.setCell ⟨p.2,k,none⟩ (.bool b)):=(Keep.refl _ _).setCell (p:=⟨p.2,k,none⟩) (.inl sI) _;obtain⟨n0,n1⟩:=aS.1 h.nd;have hpc:pc≠p.2:=fun q=>n0 (q▸(Dl hp).2)
 have pX:p.2∈X:=h.mem _ (ak _ (Dl hp).2);refine⟨h.c.keep kk (by simpa using hpc),h.row.keep kk (fun s q=>by simp at q;subst q;exact .inl pX),by simp[h.len],fun j r t hr ht=> ?_,h.mem,h.nd,h.vn⟩;have il:=(au.1 hC).1;by_cases q:i=j
 ·subst q
  rw[hp] at hr;obtain rfl:=aO hr;rw[aZ il] at ht;obtain rfl:=aO ht;have h0:=h.sl i p s hp hC;have ne:=Eo n1 hp;refine⟨?_,?_⟩
  ·have e1:Tj (oH s k b) p.2=Tj s p.2:=by simp[Tj,oH]
   rw[e1];exact h0.1.keep kk (by simpa using ne)
  ·show jR _ p.2 (bools (s.T.set k b))
   rw[Hg];exact h0.2.store k _ (by rw[qF];exact hk)
 ·rw[bQ q] at ht
  have nn:=Qa n1 hp hr q;exact(h.sl j r t hr ht).keep kk (fun q=>nn.2.2.1 (bL.1 q).symm) (fun q=>nn.2.2.2 (bL.1 q).symm)
theorem RCB.put (h:RCB X w pc pm e v A C) {C':List Sl} (hw:w'=w.setCell ⟨pc,2,none⟩ v') (hr:nO X w v' (lW A')) (hl:A'.length=C'.length) (hsl: ∀(i:Nat) (p:Nat×Nat) (s:Sl),A'[i]?=some p→C'[i]?=some s→RSl w p s) (hm: ∀y∈ay A',y∈X) (hn:(Ez pc A').Nodup) (hv:v'= .slice none 0 0∨∃g n k,v'= .slice (some ⟨g,0,none⟩) n k):
 RCB X w' pc pm e v' A' C':=by
 have kk:Keep [pc] w w':=by rw[hw];exact(Keep.refl _ _).setCell (p:=⟨pc,2,none⟩) (.inl sI) _
 have pX:pc∈X:=h.mem _ (aG ..);obtain⟨n0,n1⟩:=aS.1 hn;refine⟨?_,hr.keep kk (fun s q=>by simp at q;subst q;exact .inl pX),hl,fun i p s hp hs=>(hsl i p s hp hs).keep kk (fun q=>n0 (bL.1 q▸(Dl hp).1)) (fun q=>n0 (bL.1 q▸(Dl hp).2)),fun y hy=> ?_,hn,hv⟩
 ·have:=h.c.store 2 v' sI
  rw[←hw] at this;exact this
 ·rcases aB.1 hy with rfl|q
  ·exact pX
  ·exact hm y q
structure RC (X:List Nat) (w:World) (pc pm gN e:Nat) (mn lw hi:Int) (O:List (List Int)) (M:List Nat) (v:Value) (A:SA) (c:Ca):Prop where
 z:RZ X w pm gN mn lw hi O M c.L
 b:RCB X w pc pm e v A c.C
 ne: ∀y∈Ez pc A,y≠pm∧y≠gN∧y∉M
def rcs (pc pm gN:Nat) (A:SA) (M:List Nat):List Nat:=Ez pc A++pm::gN::M
theorem RZ.memM {L:List Nd} (h:RZ X w pm gN mn lw hi O M L) {m:Nat} (hm:m∈M):m∈X:=by
 obtain⟨i,hi⟩:=dA hm;have hl:=(au.1 hi).1;obtain⟨vF,vT,hb⟩:=h.bud i m _ hi (aA (show i<L.length by rw[←h.len];exact hl));exact hb.mem
theorem RC.mem (h:RC X w pc pm gN e mn lw hi O M v A c): ∀y∈rcs pc pm gN A M,y∈X:=fun y hy=>by
 rcases aD.1 hy with q|q
 ·exact h.b.mem y q
 ·rcases aB.1 q with rfl|q
  ·exact h.z.mem.1
  ·rcases aB.1 q with rfl|q
   ·exact h.z.mem.2
   ·exact h.z.memM q
theorem RC.lt (h:RC X w pc pm gN e mn lw hi O M v A c): ∀y∈rcs pc pm gN A M,y<w.heap.size:=fun y hy=>by
 rcases aD.1 hy with q|q
 ·exact h.b.lt y q
 ·rcases aB.1 q with rfl|q
  ·obtain⟨vP,vN,kn,ko,qo,h1,_⟩:=h.z.z;exact h1.lt
  ·rcases aB.1 q with rfl|q
   ·exact h.z.nodes.lt
   ·exact h.z.lt q
theorem RC.keep (h:RC X w pc pm gN e mn lw hi O M v A c) (k:Keep S w w') (hs: ∀s∈S,(s∈X∧s∉rcs pc pm gN A M)∨w.heap.size≤s):RC X w' pc pm gN e mn lw hi O M v A c:=
 ⟨h.z.keep k (fun s q=>(hs s q).imp (fun r=>⟨r.1,fun t=>r.2 (by subst t;exact aj _ (aG ..)),fun t=>r.2 (by subst t;exact aj _ (ak _ (aG ..))),fun t=>r.2 (aj _ (ak _ (ak _ t)))⟩) id),
  h.b.keep k (fun s q=>⟨fun t=>by
   rcases hs s q with r|r
   ·exact r.2 (av _ t)
   ·have:=h.b.lt s t;omega,(hs s q).imp (fun r=>r.1) id⟩),h.ne⟩
theorem RC.below (h:RC X w pc pm gN e mn lw hi O M v A c) (k:Below w.heap.size w w'):RC X w' pc pm gN e mn lw hi O M v A c:=h.keep (Keep.of (S:=[]) k) (fun _ q=>by cases q)
theorem RC.more (h:RC X w pc pm gN e mn lw hi O M v A c) (hX: ∀x∈X,x∈Y) (hY: ∀y∈Y,y∈X∨w.heap.size≤y):RC Y w pc pm gN e mn lw hi O M v A c:=⟨h.z.more hX hY,h.b.more hX hY,h.ne⟩
end
theorem rmany_ok (p:Nat×Nat) (s:Sl) (w:World) (h:RSl w p s) (hl:s.T.length≤64):
 Calls prog 112 #[.pointer (some ⟨p.1,0,none⟩)] w fun e w'=>e= .returned (.int .i64 (kK s))∧w'=w:=by
 obtain⟨d0,d1,d2,d3,dl,dl2⟩:=h.cells;have HB:=ah h.2;have ALL:Hid (oQ (s.T.take s.T.length)=kK s):=by show _=_;rw[bU];rfl
 obtain⟨T,hT⟩:=eY s.T;rw[←hT] at HB hl d3 ALL;have ML:Hid (∀i,oQ (T.take i)≤64):=fun i=>bW (qR _) (by rw[bD];omega)
 have MS:Hid (∀i b,T[i]?=some b→oQ (T.take (i+1))=oQ (T.take i)+(if b then 1 else 0)):=fun i b hb=>by
  rw[bR,hb];unfold oQ;rw[Option.toList_some,List.countP_append,List.countP_singleton];cases b<;>rfl
 clear h hT;go_in
 go_wp2_with fail;go_loopw [3,4] (fun nv iv wr=>∃i:Nat,i≤T.length∧nv= .int .i64 (oQ (T.take i))∧iv= .int .i64 i∧wr=w) (fun _ iv _=>T.length-(intOf iv).toNat);case atStart=>exact⟨0,bq _,rfl,by go_num,rfl⟩
 case round=>
  obtain⟨i,hi,rfl,rfl,rfl⟩:=hrel;have ml:=ML.out i;by_cases hlt:i<T.length
  ·obtain⟨b,hb⟩: ∃b,T[i]?=some b:=⟨T[i],aA hlt⟩
   have ck:=HB.out.c i _ (oq hb);have HS:=ah (MS.out i b hb);have hli:(i:Int)<(T.length:Int):=om;cases b with
   |false=>
    simp only[fK,if_false,gP] at HS;clear hb;generalize hmt:oQ (T.take i)=a at*
    clear hmt;go_wp2;go_round
    case rel=>exact⟨i+1,om,by rw[HS.out],by go_num,trivial⟩
    case measure=>simp[intOf];omega
   |true=>
    simp only[if_true] at HS;clear hb;generalize hmt:oQ (T.take i)=a at*
    clear hmt;go_wp2;go_round
    case rel=>exact⟨i+1,om,by rw[HS.out];go_num,by go_num,trivial⟩
    case measure=>simp[intOf];omega
  ·obtain rfl:i=T.length:=by omega
   rw[ALL.out];go_wp2;go_ret;exact⟨rfl,rfl⟩
section
variable {X Y S M:List Nat} {w w':World} {pc pm gN e:Nat} {mn lw hi:Int} {O:List (List Int)} {v v':Value} {A A':SA} {C:List Sl} {c:Ca} {L':List Nd}
theorem RC.use (h:RC X w pc pm gN e mn lw hi O M v A c) {i:Nat} {p:Nat×Nat} {s:Sl} (hp:A[i]?=some p) (hC:c.C[i]?=some s) {k:Nat} (b:Bool) (hk:k<s.T.length):
 RC X (w.setCell ⟨p.2,k,none⟩ (.bool b)) pc pm gN e mn lw hi O M v A ⟨c.L,c.C.set i (oH s k b)⟩:=by
 have kk:Keep [p.2] w (w.setCell ⟨p.2,k,none⟩ (.bool b)):=(Keep.refl _ _).setCell (p:=⟨p.2,k,none⟩) (.inl sI) _;have pm':=ak pc (Dl hp).2;obtain⟨n1,n2,n3⟩:=h.ne _ pm';exact⟨h.z.keep kk (fun s q=>by simp at q;subst q;exact .inl ⟨h.b.mem _ pm',n1,n2,n3⟩),h.b.use hp hC b hk,h.ne⟩
def RGvPost (X:List Nat) (pc pm gN e:Nat) (mn lw hi:Int) (O:List (List Int)) (M:List Nat) (v:Value) (A:SA) (w:World) (r:Ca×Nat) (en:Ending) (w':World):Prop:=
 en= .returned (.int .i64 r.2)∧RC X w' pc pm gN e mn lw hi O M v A r.1∧Keep (Ez pc A) w w'
end
theorem Aj:El 114 222 (.pointer none) 8:=⟨Tryz.underlying114,kR,rfl,om⟩
theorem lM {T E:TypeId} {z:Value} {b:Nat} (hE:El T E z b) {base:Nat} {v:Value} {us ms:List Value} {w:World} {p:Option Addr} {c:Nat} {ops:Array Oper} {rest:List Oper} {o:Oper} {a:Act} {Q:Exit→Act→World→Prop} (hgd:o.guard=none) (s x:Operand)
 (ho:o.op= .call {callee:=.builtin .append,args:=#[s,x],argTypes:=#[T,T]}) (hv:a.eval s=v) (un mn:Nat) (hx:a.eval x= .slice p mn c) (hun:us.length=un) (hmn:ms.length=mn)
 (hown:w.ownsRow base E 1 v un us) (hs:uP w p ms) (h1: ∀u∈ms,u.oneCell'=true) (hl:un+mn≤65536) (hb:base≤w.heap.size)
 (h: ∀q k w',w'.ownsRow base E 1 (.slice q (un+mn) k) (un+mn) (us++ms)→w.grownBy w' v.ownBlock→((Value.slice q (un+mn) k).ownBlock=v.ownBlock∨(Value.slice q (un+mn) k).ownBlock=some w.heap.size)→wpList prog ops Q rest (a.put o.dst (.slice q (un+mn) k)) w'):wpList prog ops Q (o::rest) a w:=by
 refine rD hE hgd s x ho hv mn hx hmn (by rw[hun];exact hown) hs h1 (by rw[hun,hmn];exact hl) hb fun q k w' h2 h3 h4=> ?_
 rw[aW,hun,hmn] at h2 h4 ⊢;exact h q k w' h2 h3 h4
section
variable {X Y S M:List Nat} {w w':World} {pc pm gN e:Nat} {mn lw hi:Int} {O:List (List Int)} {v v':Value} {A A':SA} {C:List Sl} {c:Ca} {L':List Nd}
def RShPost (X:List Nat) (pc pm gN e:Nat) (mn lw hi:Int) (O:List (List Int)) (M:List Nat) (A:SA) (w:World) (r:Ca×Nat) (en:Ending) (w':World):Prop:=
 en= .returned (.int .i64 r.2)∧∃v' A',RC X w' pc pm gN e mn lw hi O M v' A' r.1∧Keep (pc::M) w w'∧∀y∈ay A',y∈ay A
end
section
variable {X Y S M:List Nat} {w w':World} {pc pm gN e:Nat} {mn lw hi:Int} {O:List (List Int)} {v v':Value} {A A':SA} {C:List Sl} {c:Ca} {L':List Nd}
theorem Ig (h:RC X w pc pm gN e mn lw hi O M v A c) (hI:uR e c):
 Calls prog 97 #[.pointer (some ⟨pc,0,none⟩)] w fun r w'=>∃v,r= .returned v∧OwnO w w' v (qj e c.C):=by
 obtain⟨q,kv,ev,kv1,kv2,hrow⟩:=h.b.form;subst ev;have e1:=hI.e1;have e2:=hI.e2;have few:=hI.few;have HIN:=ah hI;have D6:=ah hrow;have HC:=ah h.b;have HL64:Hid (∀s∈c.C,s.T.length≤64):=fun s hs=>by rw[hI.len s hs];unfold kL;exact dW _ _
 have ALL:Hid (c.C.take c.C.length=c.C):=by show _=_;simp
 obtain⟨nn,hnn⟩:=eY c.C.length;have EN:=ah hnn;have OL:Hid (∀i,i≤nn→(qj e (c.C.take i)).length≤65536):=fun i hi=>by
  have:=FM (e:=e) (C:=c.C.take i) fun s hs=>HL64.out s (fD hs)
  rw[bD] at this;omega
 rw[←hnn] at few kv1 ALL;unfold maxLen at kv2;have KC:Hid (∀W,Below w.heap.size w W→W.cell? ⟨pc,1,none⟩=some (.int .i64 e)∧W.cell? ⟨pc,2,none⟩=some (.slice q nn kv)∧pc<W.heap.size):=fun W b=>by
  have t:=h.b.c.go b;rw[hnn];exact⟨t.gC 1,t.gC 2,t.lt⟩
 clear h hI hrow hnn;go_in
 go_wp2_with fail;go_loopw [3,4] (fun ov iv wr=>∃(i:Nat),i≤nn∧iv= .int .i64 i∧Hid (wr.ownsRow w.heap.size 40 2 ov (qj e (c.C.take i)).length (l8 (qj e (c.C.take i))))∧Below w.heap.size w wr) (fun _ iv _=>nn-(intOf iv).toNat);case atStart=>exact⟨0,om,by go_num,aT _ _ _ _,aL _ _⟩
 case round=>
  obtain⟨i,hile,rfl,HO,hbel⟩:=hrel;obtain⟨c1,c2,cl⟩:=KC.out _ hbel;by_cases hin:i<nn
  ·obtain⟨s,hs⟩: ∃s,c.C[i]?=some s:=⟨c.C[i]'(by rw[←EN.out];exact hin),aA _⟩
   obtain⟨p,hp,hsl⟩:=HC.out.at hs;obtain⟨g,of,rfl,hg,hc0⟩:=D6.out i p hp;have hik:i<kv:=om;have hsm:=aF hs;obtain⟨_,_,r3,r4⟩:=HIN.out.rng hsm;have l64:=HL64.out s hsm;have OLi:=OL.out i hile;have SN:=ah (Hz (e:=e) hs);have HKA:=ah (FK e s);obtain⟨l,hll⟩:=eY s.T.length;have HLL:=ah hll;rw[←hll] at l64 HKA;have hli:(i:Int)<(nn:Int):=om;have hl0:(0:Int)≤(i:Int):=om;have SK:Hid (∀W,Below w.heap.size w W→W.cell? ⟨g,of+i,none⟩=some (.pointer (some ⟨p.1,0,none⟩))∧g<W.heap.size∧W.cell? ⟨p.1,0,none⟩=some (.int .i64 s.nd)∧W.cell? ⟨p.1,1,none⟩=some (.int .i64 s.pg)∧W.cell? ⟨p.1,3,none⟩=some (.slice (some ⟨p.2,0,none⟩) l l)∧p.1<W.heap.size∧p.2<W.heap.size∧jR W p.2 (bools s.T)):=fun W b=>by
    have t:=hsl.below b;obtain⟨d0,d1,d2,d3,dl,dl2⟩:=t.cells;rw[hll];exact⟨(b.cell (p:=⟨g,of+i,none⟩) hg).trans hc0,aC hg b.size,d0,d1,d3,dl,dl2,t.2⟩
   have HBR:=ah hbel;clear hc0 hsl hs hp hsm hll hbel hg;go_wp2_with fail;clear c1 c2 cl;go_loopw [3,5] (fun ov kv wi=>∃(k:Nat),k≤l∧kv= .int .i64 k∧Hid (wi.ownsRow w.heap.size 40 2 ov ((qj e (c.C.take i)).length+(JJ e s k).length) (l8 (qj e (c.C.take i)++JJ e s k)))∧Below w.heap.size w wi) (fun _ kv _=>l-(intOf kv).toNat);case atStart=>exact⟨0,om,by go_num,(show wr.ownsRow _ _ _ _ _ _ from by have:=HO.out;simpa[JJ] using this),HBR.out⟩
   case round=>
    obtain⟨k,hkl,rfl,HOk,hbk⟩:=hrel;obtain⟨c1,c2,cl⟩:=KC.out _ hbk;obtain⟨ck,gl,y0,y1,y3,yl,yl2,yb⟩:=SK.out _ hbk;have HYB:=ah yb;clear yb HBR;by_cases hlt:k<l
    ·obtain⟨bt,hbt⟩: ∃bt,s.T[k]?=some bt:=⟨s.T[k]'(by rw[←HLL.out];exact hlt),aA _⟩
     have ct:=HYB.out.c k _ (oq hbt);have hlk:(k:Int)<(l:Int):=om;have hl0k:(0:Int)≤(k:Int):=om;cases bt with
     |false=>
      have KN:=ah (VA (e:=e) hbt);clear hbt;go_wp2;go_round
      case rel=>exact⟨k+1,om,by go_num,by rw[KN.out];exact HOk,hbk⟩
      case measure=>simp[intOf];omega
     |true=>
      have KN:=ah (Qg (e:=e) hbt);have ke0:(0:Int)≤(k:Int)*(e:Int):=fO om om;have ke1:(k:Int)*(e:Int)≤4096:=by
       have:=eP (show k≤64 by omega) e2;have h2:((k*e:Nat):Int)≤((64*64:Nat):Int):=om;simpa using h2
      have OLK:=FL e s k;have HB2:=ah hbk;have hw1:IntKind.i64.wrap (s.pg*64)=s.pg*64:=aY _ om;have hw2:IntKind.i64.wrap ((k:Int)*(e:Int))=(k:Int)*(e:Int):=aY _ om;have hw3:IntKind.i64.wrap (s.pg*64+(k:Int)*(e:Int))=s.pg*64+(k:Int)*(e:Int):=aY _ om;clear hbt;go_wp2_with fail;refine kE (S:=(fun w'=>w'.cell? ⟨p.1,0,none⟩=some (.int .i64 s.nd)∧w'.cell? ⟨p.1,1,none⟩=some (.int .i64 s.pg)∧w'.cell? ⟨pc,1,none⟩=some (.int .i64 e)∧w'.cell? ⟨pc,2,none⟩=some (.slice (some ⟨g,of,none⟩) nn kv)∧w'.cell? ⟨g,of+i,none⟩=some (.pointer (some ⟨p.1,0,none⟩)))) 35 #[false,false,false,false,false,false,false,false,false,false,false,false,false,false,false,false,false,false,false,false,false,false,false,false,false,false,false,false,false,false,false,false,false,false,false] rfl kR kR (by(try dsimp only);go_keep) (fun hHeld=> ?_);simp only[aQ,aV];refine tk 0 ?_;refine tk 1 ?_;refine tk 2 ?_;refine tk 3 ?_;refine tk 4 ?_;refine tk 5 ?_;refine tk 6 ?_;refine tk 7 ?_;refine tk 8 ?_;refine tk 9 ?_;refine tk 10 ?_;refine tk 11 ?_;refine tk 12 ?_;refine tk 13 ?_;refine tk 14 ?_;refine tk 15 ?_;refine tk 16 ?_;refine tk 17 ?_;refine tk 18 ?_;refine tk 19 ?_;refine tk 20 ?_;refine tk 21 ?_;refine tk 22 ?_;refine tk 23 ?_;refine tk 24 ?_;refine tk 25 ?_;refine tk 26 ?_;refine tk 27 ?_;refine tk 28 ?_;refine tk 29 ?_;refine tk 30 ?_;refine tk 31 ?_;refine tk 32 ?_;refine wpAnyH_ready (rs:=[33]) kR sI ?_;refine aR (jT rfl) (fun K hK=> ?_) aX;go_simp
      refine hkO hK fun hHeld=> ?_
      clear hK K;refine wpAnyH_ready (rs:=[34]) kR sI ?_;refine aR (jT rfl) (fun K hK=> ?_) aX;refine Hy uh (base:=w.heap.size) (ms:=[.int .i64 s.nd,.int .i64 (s.pg*64+(k:Int)*(e:Int))]) rf (.tmp 43) (.tmp 76) rf rf rf ((HOk.out.alloc _).drew) rfl (fun j u hj=>oK wr _ _ _ j u hj) (oL _ _) om (by have:=HB2.out.size;simp;omega) ?_;intro q4 k4 w4 kV hg4;have hb4:Below w.heap.size w w4:=(HB2.out.alloc (by have:=HB2.out.size;simpa using this) _).drew.grown hg4 (by have:=HB2.out.size;simp;omega) (fun r hr=>(HOk.out.lt r hr).1);obtain⟨zk,zg,z0,z1,z3,zl,zl2,_⟩:=SK.out _ hb4;obtain⟨zp,zp2,zpl⟩:=KC.out _ hb4;refine hkO hK fun hHeld=> ?_
      clear hK K;refine wpAnyH_done kR ?_ _;simp only[oz,aP,aU];go_wp2;go_round
      case rel=>
       refine⟨k+1,om,by go_num,?_,hb4⟩;show World.ownsRow _ _ _ _ _ _ _;rw[KN.out,aW,←Nat.add_assoc,←bT,lY];exact kV
      case measure=>simp[intOf];omega
    ·obtain rfl:k=l:=by omega
     go_wp2;go_round
     case rel=>
      refine⟨i+1,om,by go_num,?_,hbk⟩;show World.ownsRow _ _ _ _ _ _ _;have:=HOk.out;rw[HKA.out,←aW,←SN.out] at this;exact this
     case measure=>simp[intOf];omega
  ·obtain rfl:i=nn:=by omega
   have HO':=HO.out;rw[ALL.out] at HO';have HOO:=ah HO';clear HO HO';go_wp2;go_ret;exact⟨_,rfl,HOO.out,hbel⟩
end
def RdO (w:World) (v:Value) (l:List Ob):Prop:=∃q k,v= .slice q l.length k∧l.length≤k∧k≤maxLen∧∀(j:Nat) (o:Ob),l[j]?=some o→∃g off,q=some ⟨g,off,none⟩∧g<w.heap.size∧w.cell? ⟨g,off+j*2,none⟩=some (.int .i64 o.1)∧w.cell? ⟨g,off+j*2+1,none⟩=some (.int .i64 o.2)
def RdP (w:World) (v:Value) (l:List Pl):Prop:=∃q k,v= .slice q l.length k∧l.length≤k∧k≤maxLen∧∀(j:Nat) (o:Pl),l[j]?=some o→∃g off,q=some ⟨g,off,none⟩∧g<w.heap.size∧w.cell? ⟨g,off+j*3,none⟩=some (.int .i64 o.1)∧w.cell? ⟨g,off+j*3+1,none⟩=some (.int .i64 o.2.1)∧w.cell? ⟨g,off+j*3+2,none⟩=some (.int .i64 o.2.2)
section
variable {X Y S M:List Nat} {w w':World} {B pc pz pcm pm gN e:Nat} {mn lw hi:Int} {O:List (List Int)} {v v' vs:Value} {A A' As:SA} {C:List Sl} {c:Ca} {L':List Nd}
end
structure CZS (w0:World) (X:List Nat) (pc pz pcm pm gN e:Nat) (mn lw hi:Int) (O:List (List Int)) (M:List Nat) (vs v:Value) (As A:SA) (c d:Ca) (w:World):Prop where
 cs:CS w0.heap.size w pc pz mn lw hi O e X vs As c
 rc:RC X w pcm pm gN e mn lw hi O M v A d
 dis: ∀y∈rcs pcm pm gN A M,y∉cay pc vs As∧y∉ys c.L
 lim: ∀x∈X,w0.heap.size≤x∧x<w.heap.size
 bel:Below w0.heap.size w0 w
def CZX (w0:World) (X F:List Nat) (pc pz pcm pm gN e:Nat) (mn lw hi:Int) (O:List (List Int)) (c d:Ca) (w:World):Prop:=∃M vs v As A,CZS w0 X pc pz pcm pm gN e mn lw hi O M vs v As A c d w∧∀f∈F,f∈X∧f∉cay pc vs As++ys c.L++rcs pcm pm gN A M
section
variable {X Y S M M' F G:List Nat} {w w' w0:World} {ev:Nat→Addr} {pc pz pcm pm gN e:Nat} {mn lw hi:Int} {O:List (List Int)} {v v' vs vs':Value} {A A' As As':SA} {c c' d d':Ca} {L':List Nd}
def CZPost (w0:World) (X F:List Nat) (pc pz pcm pm gN e:Nat) (mn lw hi:Int) (O:List (List Int)) (c d:Ca) (w:World) (r:Value) (en:Ending) (w':World):Prop:=
 en= .returned r∧∃X',CZX w0 X' F pc pz pcm pm gN e mn lw hi O c d w'∧Keep (off X F) w w'∧∀x∈X',x∈X∨w.heap.size≤x
end
structure RDB (X:List Nat) (w:World) (pd pc gh:Nat) (V:HV) (vp:Value) (U:List Value) (H:List Hd) (P:List (List Ob)):Prop where
 d:jR w pd [.pointer (some ⟨pc,0,none⟩),.slice (some ⟨gh,0,none⟩) H.length H.length,vp]
 hs:jR w gh (lX V)
 hl:V.length=H.length
 ho: ∀(i:Nat) (p:Value×Value) (h:Hd),V[i]?=some p→H[i]?=some h→mD X w p.1 h.1∧mD X w p.2 h.2
 row:nO X w vp U
 ul:U.length=P.length
 po: ∀(i:Nat) (u:Value) (m:List Ob),U[i]?=some u→P[i]?=some m→mD X w u m
 mem:pd∈X∧gh∈X
 ne:pd≠gh
structure RD (X:List Nat) (w:World) (pd gh pc pm gN e:Nat) (mn lw hi:Int) (O:List (List Int)) (M:List Nat) (v:Value) (A:SA) (V:HV) (vp:Value) (U:List Value) (d:De):Prop where
 c:RC X w pc pm gN e mn lw hi O M v A d.c
 b:RDB X w pd pc gh V vp U d.H d.P
 ne:pd∉rcs pc pm gN A M∧gh∉rcs pc pm gN A M
def rds (pd gh pc pm gN:Nat) (A:SA) (M:List Nat):List Nat:=pd::gh::rcs pc pm gN A M
section
variable {X Y S M M' F G:List Nat} {w w' w0:World} {ev:Nat→Addr} {pd gh pc pm gN e:Nat} {mn lw hi:Int} {O:List (List Int)} {v v' vp vp':Value} {A A':SA} {V V':HV} {U U':List Value} {d d':De} {H:List Hd} {P P':List (List Ob)} {c c':Ca}
theorem RDB.keep (h:RDB X w pd pc gh V vp U H P) (k:Keep S w w') (hs: ∀s∈S,s≠pd∧s≠gh∧(s∈X∨w.heap.size≤s)):RDB X w' pd pc gh V vp U H P:=
 ⟨h.d.keep k (fun q=>(hs _ q).1 rfl),h.hs.keep k (fun q=>(hs _ q).2.1 rfl),h.hl,fun i p g hp hg=>⟨(h.ho i p g hp hg).1.keep k fun s q=>(hs s q).2.2,(h.ho i p g hp hg).2.keep k fun s q=>(hs s q).2.2⟩,
  h.row.keep k (fun s q=>(hs s q).2.2),h.ul,fun i u m hu hm=>(h.po i u m hu hm).keep k fun s q=>(hs s q).2.2,h.mem,h.ne⟩
theorem RDB.more (h:RDB X w pd pc gh V vp U H P) (hX: ∀x∈X,x∈Y) (hY: ∀y∈Y,y∈X∨w.heap.size≤y):RDB Y w pd pc gh V vp U H P:=
 ⟨h.d,h.hs,h.hl,fun i p g hp hg=>⟨(h.ho i p g hp hg).1.more hY,(h.ho i p g hp hg).2.more hY⟩,h.row.more hY,h.ul,fun i u m hu hm=>(h.po i u m hu hm).more hY,⟨hX _ h.mem.1,hX _ h.mem.2⟩,h.ne⟩
theorem RD.mem (h:RD X w pd gh pc pm gN e mn lw hi O M v A V vp U d): ∀y∈rds pd gh pc pm gN A M,y∈X:=fun y hy=>by
 rcases aB.1 hy with rfl|q
 ·exact h.b.mem.1
 ·rcases aB.1 q with rfl|q
  ·exact h.b.mem.2
  ·exact h.c.mem y q
theorem RD.lt (h:RD X w pd gh pc pm gN e mn lw hi O M v A V vp U d): ∀y∈rds pd gh pc pm gN A M,y<w.heap.size:=fun y hy=>by
 rcases aB.1 hy with rfl|q
 ·exact h.b.d.lt
 ·rcases aB.1 q with rfl|q
  ·exact h.b.hs.lt
  ·exact h.c.lt y q
theorem RD.keep (h:RD X w pd gh pc pm gN e mn lw hi O M v A V vp U d) (k:Keep S w w') (hs: ∀s∈S,(s∈X∧s∉rds pd gh pc pm gN A M)∨w.heap.size≤s):RD X w' pd gh pc pm gN e mn lw hi O M v A V vp U d:=
 ⟨h.c.keep k (fun s q=>(hs s q).imp (fun r=>⟨r.1,fun t=>r.2 (ak _ (ak _ t))⟩) id),
  h.b.keep k (fun s q=>by
   have l1:=h.b.d.lt;have l2:=h.b.hs.lt;rcases hs s q with r|r
   ·exact⟨fun t=>r.2 (t▸aG ..),fun t=>r.2 (t▸ak _ (aG ..)),.inl r.1⟩
   ·exact⟨fun t=>om,fun t=>om,.inr r⟩),h.ne⟩
theorem RD.below (h:RD X w pd gh pc pm gN e mn lw hi O M v A V vp U d) (k:Below w.heap.size w w'):RD X w' pd gh pc pm gN e mn lw hi O M v A V vp U d:=h.keep (Keep.of (S:=[]) k) (fun _ q=>by cases q)
theorem RD.more (h:RD X w pd gh pc pm gN e mn lw hi O M v A V vp U d) (hX: ∀x∈X,x∈Y) (hY: ∀y∈Y,y∈X∨w.heap.size≤y):RD Y w pd gh pc pm gN e mn lw hi O M v A V vp U d:=
 ⟨h.c.more hX hY,h.b.more hX hY,h.ne⟩
theorem RD.cache (h:RD X w pd gh pc pm gN e mn lw hi O M v A V vp U d) (hr:RC Y w' pc pm gN e mn lw hi O M' v' A' c') (h1: ∀x∈X,x∈Y) (h2: ∀x∈Y,x∈X∨w.heap.size≤x) (h4: ∀y∈rcs pc pm gN A' M',y∈rcs pc pm gN A M∨w.heap.size≤y) (k:Keep S w w') (hS: ∀s∈S,s∈rcs pc pm gN A M):
 RD Y w' pd gh pc pm gN e mn lw hi O M' v' A' V vp U ⟨c',d.H,d.P⟩:=by
 have l1:=h.b.d.lt;have l2:=h.b.hs.lt;refine⟨hr,(h.b.more h1 h2).keep k (fun s q=>⟨fun t=>h.ne.1 (t▸hS s q),fun t=>h.ne.2 (t▸hS s q),.inl (h1 s (h.c.mem s (hS s q)))⟩),fun q=> ?_,fun q=> ?_⟩
 ·rcases h4 _ q with r|r
  ·exact h.ne.1 r
  ·omega
 ·rcases h4 _ q with r|r
  ·exact h.ne.2 r
  ·omega
theorem RD.FU (h:RD X w pd gh pc pm gN e mn lw hi O M v A V vp U d) (k:Nat) {p':Value×Value} {h':Hd} (hk:k<d.H.length) (r1:mD X w p'.1 h'.1) (r2:mD X w p'.2 h'.2) (kk:Keep [gh,pd] w w') (hg:jR w' gh (lX (V.set k p')))
 (hd:jR w' pd [.pointer (some ⟨pc,0,none⟩),.slice (some ⟨gh,0,none⟩) d.H.length d.H.length,vp']) (row:nO X w vp' U') (ul:U'.length=P'.length)
 (po: ∀(i:Nat) (u:Value) (m:List Ob),U'[i]?=some u→P'[i]?=some m→mD X w u m):
 RD X w' pd gh pc pm gN e mn lw hi O M v A (V.set k p') vp' U' ⟨d.c,d.H.set k h',P'⟩:=by
 have hs: ∀s∈[gh,pd],s∈X∨w.heap.size≤s:=fun s q=>by
  simp at q;rcases q with rfl|rfl
  ·exact .inl h.b.mem.2
  ·exact .inl h.b.mem.1
 refine⟨h.c.keep kk (fun s q=>by
  simp at q;rcases q with rfl|rfl
  ·exact .inl ⟨h.b.mem.2,h.ne.2⟩
  ·exact .inl ⟨h.b.mem.1,h.ne.1⟩),⟨by rw[cu];exact hd,hg,by simp[h.b.hl],fun i p g hp hg'=> ?_,row.keep kk hs,ul,fun i u m hu hm=>(po i u m hu hm).keep kk hs,h.b.mem,h.b.ne⟩,h.ne⟩
 by_cases q:k=i
 ·subst q
  rw[aZ (by rw[h.b.hl];exact hk)] at hp;rw[aZ hk] at hg';obtain rfl:=aO hp;obtain rfl:=aO hg';exact⟨r1.keep kk hs,r2.keep kk hs⟩
 ·rw[bQ q] at hp hg'
  exact⟨(h.b.ho i p g hp hg').1.keep kk hs,(h.b.ho i p g hp hg').2.keep kk hs⟩
theorem RD.yu (h:RD X w pd gh pc pm gN e mn lw hi O M v A V vp U d) (k:Nat) {p':Value×Value} {h':Hd} (hk:k<d.H.length) (r1:mD X w p'.1 h'.1) (r2:mD X w p'.2 h'.2) (kk:Keep [gh] w w') (hg:jR w' gh (lX (V.set k p'))):
 RD X w' pd gh pc pm gN e mn lw hi O M v A (V.set k p') vp U ⟨d.c,d.H.set k h',d.P⟩:=
 h.FU k hk r1 r2 (kk.mono (fun s q=>by simp at q;subst q;simp)) hg (h.b.d.keep kk (by simpa using h.b.ne)) h.b.row h.b.ul h.b.po
theorem RD.setPile (h:RD X w pd gh pc pm gN e mn lw hi O M v A V vp U d) (kk:Keep [pd] w w') (hd:jR w' pd [.pointer (some ⟨pc,0,none⟩),.slice (some ⟨gh,0,none⟩) d.H.length d.H.length,vp']) (row:nO X w vp' U') (ul:U'.length=P'.length)
 (po: ∀(i:Nat) (u:Value) (m:List Ob),U'[i]?=some u→P'[i]?=some m→mD X w u m):
 RD X w' pd gh pc pm gN e mn lw hi O M v A V vp' U' ⟨d.c,d.H,P'⟩:=by
 have hs: ∀s∈[pd],s∈X∨w.heap.size≤s:=fun s q=>by simp at q;subst q;exact .inl h.b.mem.1
 exact⟨h.c.keep kk (fun s q=>by simp at q;subst q;exact .inl ⟨h.b.mem.1,h.ne.1⟩),⟨hd,h.b.hs.keep kk (by simpa using fun q=>h.b.ne q.symm),h.b.hl,fun i p g hp hg'=>⟨(h.b.ho i p g hp hg').1.keep kk hs,(h.b.ho i p g hp hg').2.keep kk hs⟩,row.keep kk hs,ul,fun i u m hu hm=>(po i u m hu hm).keep kk hs,h.b.mem,h.b.ne⟩,h.ne⟩
theorem RD.hand (h:RD X w pd gh pc pm gN e mn lw hi O M v A V vp U d) {k:Nat} {g:Hd} (hk:d.H[k]?=some g): ∃p,V[k]?=some p∧mD X w p.1 g.1∧mD X w p.2 g.2∧w.cell? ⟨gh,k*2,none⟩=some p.1∧w.cell? ⟨gh,k*2+1,none⟩=some p.2∧w.frozen? ⟨gh,k*2,none⟩=false∧w.frozen? ⟨gh,k*2+1,none⟩=false∧gh<w.heap.size:=by
 have hl:=(au.1 hk).1;obtain⟨p,hp⟩: ∃p,V[k]?=some p:=⟨V[k]'(by rw[h.b.hl];exact hl),aA _⟩;obtain⟨g1,g2⟩:=pE hp;obtain⟨o1,o2⟩:=h.b.ho k p g hp hk;have hv:V.length=d.H.length:=h.b.hl;exact⟨p,hp,o1,o2,h.b.hs.c _ _ g1,h.b.hs.c _ _ g2,h.b.hs.f _ (by rw[lK];omega),h.b.hs.f _ (by rw[lK];omega),h.b.hs.lt⟩
theorem Qp {g k:Nat} {W:World} (h:jR W g (lX V)) (hk:k<V.length) (x y:Value):jR ((W.setCell ⟨g,k*2,none⟩ x).setCell ⟨g,k*2+1,none⟩ y) g (lX (V.set k (x,y))):=by
 obtain⟨p,hp⟩: ∃p,V[k]?=some p:=⟨V[k],aA hk⟩;have a1:=Dk h hp x;have a2:=hloc2 a1 (Ai hk _) y;rw[JL] at a2;exact a2
theorem RD.pile (h:RD X w pd gh pc pm gN e mn lw hi O M v A V vp U d): ∃q k,vp= .slice q d.P.length k∧d.P.length≤k∧k≤maxLen∧∀(j:Nat) (m:List Ob),d.P[j]?=some m→∃u g o,U[j]?=some u∧q=some ⟨g,o,none⟩∧g∉X∧g<w.heap.size∧w.cell? ⟨g,o+j,none⟩=some u∧mD X w u m:=by
 obtain⟨q,k,e,h1,h2,h3⟩:=h.b.row.form;rw[h.b.ul] at e h1;refine⟨q,k,e,h1,h2,fun j m hm=> ?_⟩;have hl:=(au.1 hm).1;obtain⟨u,hu⟩: ∃u,U[j]?=some u:=⟨U[j]'(by rw[h.b.ul];exact hl),aA _⟩;obtain⟨g,o,e1,gx,e2,e3⟩:=h3 j u hu;exact⟨u,g,o,hu,e1,gx,e2,e3,h.b.po j u m hu hm⟩
theorem nO.cutV {X:List Nat} {w:World} {p:Option Addr} {n cap:Nat} {us:List Value} (h:nO X w (.slice p n cap) us) (m:Nat) (hm:m≤n):nO X w (.slice p m cap) (us.take m):=by
 obtain⟨p',cap',e,h1,h2,h3⟩:=h;injection e with e1 e2 e3;subst e1 e3;have el:(us.take m).length=m:=by rw[bD];omega
 refine⟨p,cap,by rw[el],om,h2,fun j u hj=> ?_⟩;rw[fC] at hj;split at hj
 ·exact h3 j u hj
 ·cases hj
def mO (X:List Nat) (pd gh pc pm gN e:Nat) (mn lw hi:Int) (O:List (List Int)) (M:List Nat) (A:SA) (w:World) (d':De) (r:Value) (en:Ending) (w':World):Prop:=
 en= .returned r∧∃X' M' v' A' V' vp' U',RD X' w' pd gh pc pm gN e mn lw hi O M' v' A' V' vp' U' d'∧Keep (rds pd gh pc pm gN A M) w w'∧(∀x∈X,x∈X')∧(∀x∈X',x∈X∨w.heap.size≤x)∧(∀x∈X',x<w'.heap.size)∧(∀y∈rds pd gh pc pm gN A' M',y∈rds pd gh pc pm gN A M∨w.heap.size≤y)
theorem mO.here {r:Value} (hX: ∀x∈X,x<w.heap.size) (hr:RD X w' pd gh pc pm gN e mn lw hi O M v' A V' vp' U' d') (k:Keep S w w') (hS: ∀s∈S,s∈rds pd gh pc pm gN A M):mO X pd gh pc pm gN e mn lw hi O M A w d' r (.returned r) w':=
 ⟨rfl,X,M,v',A,V',vp',U',hr,k.mono hS,fun _ q=>q,fun _ q=>.inl q,fun x q=>aC (hX x q) k.size,fun _ q=>.inl q⟩
end
