/- Lemmas and contracts for the claim's last text: ZTake, SCS, ZLaw, STaken. -/
import Derived.Test.YtehhldljdakgeaaGreatDoorQa01
import Derived.Test.YtehhldljdakgeaaGreatDoorQa09
set_option linter.unusedSimpArgs false
set_option linter.unusedVariables false
set_option maxHeartbeats 16000000
set_option maxRecDepth 100000
namespace Go.Proofs.YtehhldljdakgeaaGreatDoor
open Go.RowKit Go.Maps
attribute [local go_sem ↓] aJ aK
def plV (p:Pl):Value:=.agg #[.int .i64 p.1,.int .i64 p.2.1,.int .i64 p.2.2]
structure yL (B:Nat) (ev:Nat→Addr) (w:World):Prop where
 d:SE B ev w
 l7:3<B
 c7:w.cell? ⟨3,0,none⟩=some (jW ev 7)
theorem yL.below {B:Nat} {ev:Nat→Addr} {w w':World} (h:yL B ev w) (hb:Below B w w'):yL B ev w':=
 ⟨h.d.below hb,h.l7,(hb.cell (p:=⟨3,0,none⟩) h.l7).trans h.c7⟩
theorem yL.size {B:Nat} {ev:Nat→Addr} {w:World} (h:yL B ev w):B≤w.heap.size:=h.d.size
theorem yL.go {B:Nat} {ev:Nat→Addr} {w w':World} (h:yL B ev w) (hb:Below w.heap.size w w'):yL B ev w':=h.below (hb.mono h.size)
theorem yL.c {B:Nat} {ev:Nat→Addr} {w:World} (h:yL B ev w):yT B ev w:=h.d.c
theorem QF {B:Nat} {ev:Nat→Addr} (pz:Nat) (mn lw hi:Int) (O:List (List Int)) (L:List Nd) (v k:Int) (u:Bool) (w:World) (hE:yL B ev w) (h:oz B w pz mn lw hi O L) (hL:0<L.length) (hv:v<0∨(L.length:Int)≤v):
 Calls Tryz.prog 135 #[.pointer (some ⟨pz,0,none⟩),.int .i64 v,.int .i64 k,.bool u] w fun e w'=>e= .returned (.tuple #[plV (0,0,0),jW ev 2])∧Below w.heap.size w w':=by
 have hB:=hE.size;have hb0:Below w.heap.size w ((w.alloc (.cells #[.int .i64 k] 3)).alloc (.cells #[.int .i64 0,.int .i64 0,.int .i64 0] 215)):=jK;have NO:=ah (NK pz mn lw hi O L v _ (hE.c.below (hb0.mono hB)) (h.below hb0) hL hv);have L1:=ah (jD.mk_ (w.alloc (.cells #[.int .i64 k] 3)) [.int .i64 0,.int .i64 0,.int .i64 0] 215 (b:=w.heap.size+1) sI);have e1:jW ev 2= .iface 336 (.pointer (some (ev 2))):=rfl;rw[e1] at NO ⊢;clear h hv hE e1 hb0;go_enter Tryz.func135,Tryz.ntmps135;go_wp2_with fail;refine NO.out.mono ?_;rintro e w1 ⟨rfl,hb1⟩;have M:=L1.out.go hb1;have m0:=M.gC 0;have m1:=M.gC 1;have m2:=M.gC 2;have f0:=M.f 0 sI;have f1:=M.f 1 sI;have f2:=M.f 2 sI;have ml:=M.lt;have HM:=ah (M.vU (.int .i64 0) (.int .i64 0) (.int .i64 0));clear M NO L1;go_wp2;have x0:=HM.out.gC 0;have x1:=HM.out.gC 1;have x2:=HM.out.gC 2;exact bodyPost_ret (v:=.tuple #[.agg #[.int .i64 0,.int .i64 0,.int .i64 0],.iface 336 (.pointer (some (ev 2)))]) (by simp[x0,x1,x2,results,gZ,go_sem]) rfl ⟨rfl,jK⟩
theorem Ie {B:Nat} {ev:Nat→Addr} (pz:Nat) (mn lw hi:Int) (O:List (List Int)) (L:List Nd) (v:Nat) (k:Int) (u:Bool) (w:World) (hE:yL B ev w) (h:oz B w pz mn lw hi O L) (hv:v<L.length) (hk:k<0∨6<k):
 Calls Tryz.prog 135 #[.pointer (some ⟨pz,0,none⟩),.int .i64 v,.int .i64 k,.bool u] w fun e w'=>e= .returned (.tuple #[plV (0,0,0),jW ev 2])∧Below w.heap.size w w':=by
 have hB:=hE.size;have hb0:Below w.heap.size w ((w.alloc (.cells #[.int .i64 k] 3)).alloc (.cells #[.int .i64 0,.int .i64 0,.int .i64 0] 215)):=jK;have NO:=ah (I8 pz mn lw hi O L v _ (h.below hb0) hv);have L0:=ah ((jD.mk_ w [.int .i64 k] 3 rfl).past (.cells #[.int .i64 0,.int .i64 0,.int .i64 0] 215));have L1:=ah (jD.mk_ (w.alloc (.cells #[.int .i64 k] 3)) [.int .i64 0,.int .i64 0,.int .i64 0] 215 (b:=w.heap.size+1) sI);have e1:jW ev 2= .iface 336 (.pointer (some (ev 2))):=rfl;have SZ:Hid (∀W,Below w.heap.size w W→Calls Tryz.prog 160 #[.int .i64 k] W fun e w'=>e= .returned (.tuple #[.int .i64 0,jW ev 2])∧Below W.heap.size W w'):=fun W hb=>size_no k W (hE.c.below (hb.mono hB)) hk
 rw[e1] at SZ ⊢;clear h hv hE e1 hb0;go_enter Tryz.func135,Tryz.ntmps135;go_wp2_with fail;refine NO.out.mono ?_;rintro e w1 ⟨rfl,hb1⟩;have P:=L0.out.go hb1;have p0:=P.gC 0;have pl:=P.lt;have M:=ah (L1.out.go hb1);clear P NO L0 L1;go_wp2_with fail;refine(SZ.out _ jK).mono ?_;rintro e w2 ⟨rfl,hb2⟩;have M2:=M.out.go hb2;have m0:=M2.gC 0;have m1:=M2.gC 1;have m2:=M2.gC 2;have f0:=M2.f 0 sI;have f1:=M2.f 1 sI;have f2:=M2.f 2 sI;have ml:=M2.lt;have HM:=ah (M2.vU (.int .i64 0) (.int .i64 0) (.int .i64 0));clear M2 SZ M p0;have z1:=hb1.size;simp at z1;go_wp2;have x0:=HM.out.gC 0;have x1:=HM.out.gC 1;have x2:=HM.out.gC 2;exact bodyPost_ret (v:=.tuple #[.agg #[.int .i64 0,.int .i64 0,.int .i64 0],.iface 336 (.pointer (some (ev 2)))]) (by simp[x0,x1,x2,results,gZ,go_sem]) rfl ⟨rfl,jK⟩
theorem oz.row {B:Nat} {w:World} {pz:Nat} {mn lw hi:Int} {O:List (List Int)} {L:List Nd} (h:oz B w pz mn lw hi O L) {v:Nat} {D:List Int} (hD:O[v]?=some D) (hD0:0<D.length):
 ∃g off kn gO oO ko gD oD kD,jD w pz [.slice none 0 0,.slice none 0 0,.int .i64 mn,.int .i64 lw,.int .i64 hi,.slice (some ⟨g,off,none⟩) L.length kn,.slice (some ⟨gO,oO,none⟩) L.length ko]∧(g∉ys L∧g<w.heap.size)∧(gO∉ys L∧gO<w.heap.size)∧(gD∉ys L∧gD<w.heap.size)∧(L.length≤kn∧kn≤maxLen)∧(L.length≤ko∧ko≤maxLen)∧(D.length≤kD∧kD≤maxLen)∧
  (∀j y,L[j]?=some y→w.cell? ⟨g,off+j,none⟩=some (.pointer (some ⟨y.pb,0,none⟩)))∧w.cell? ⟨gO,oO+v,none⟩=some (.slice (some ⟨gD,oD,none⟩) D.length kD)∧∀t z,D[t]?=some z→w.cell? ⟨gD,oD+t,none⟩=some (.int .i64 z):=by
 have hl:v<L.length:=by rw[←h.ord.1];exact(au.1 hD).1
 obtain⟨g,off,kn,qo,ko,hz,hg,hgl,hk1,hk2,hc,hr⟩:=h.open om;obtain⟨p,cap,e,hc1,hc2,hn⟩:=hr.form;rw[h.ord.1] at e hc1;injection e with e1 e2 e3;subst e1 e3;obtain⟨gO,oO,u,rfl,hgO,hgOl,hcu,hu⟩:=hn v D hD;obtain⟨pD,kD,rfl,hkD,hmD,hcD⟩:=hu.int;obtain⟨x,hx⟩: ∃x,D[0]?=some x:=⟨D[0],aA hD0⟩;obtain⟨gD,oD,rfl,hgD,hgDl,_⟩:=hcD 0 x hx;refine⟨g,off,kn,gO,oO,ko,gD,oD,kD,hz,⟨hg,hgl⟩,⟨hgO,hgOl⟩,⟨hgD,hgDl⟩,⟨hk1,hk2⟩,⟨hc1,hc2⟩,⟨hkD,hmD⟩,hc,hcu,fun t z ht=> ?_⟩;obtain⟨g',o',e,_,_,q⟩:=hcD t z ht;injection e with e;injection e with ea eb;subst ea eb;exact q
theorem uV {α:Type} {D:List α} {t:Nat} {z:α} {P:α→Prop} (h: ∀y∈D.take t,P y) (hz:D[t]?=some z) (hp:P z): ∀y∈D.take (t+1),P y:=by
 rw[bT,hz];intro y hy;simp at hy;rcases hy with hy|rfl
 ·exact h y hy
 ·exact hp
def DK (B:Nat) (ev:Nat→Addr) (pz:Nat) (mn lw hi:Int) (O:List (List Int)) (L:List Nd) (w:World) (r:List Nd×Nat×Pl) (e:Ending) (w':World):Prop:=
 e= .returned (.tuple #[plV r.2.2,jW ev r.2.1])∧oz B w' pz mn lw hi O r.1∧Keep (ys L) w w'
theorem zhit {B:Nat} {ev:Nat→Addr} {pz:Nat} {mn lw hi:Int} {O:List (List Int)} {L:List Nd} {r:List Nd×Nat×Pl} {w w3 w4:World} {k:Int} {zn:Nat} {x:Nd} {b:Int×Int} (hr:r=(L.set (zn:Int).toNat (wE k b x),0,((zn:Int),b.1,k)))
 (h:oz B w pz mn lw hi O L) (hx:L[zn]?=some x) (hI:Inv x.n (sJ k b x.F) (qh b.1 k x.T)) (hb:Bud w3 x.pb x.n x.bf x.bt (sJ k b x.F) (qh b.1 k x.T)) (h3:Keep [x.bf,x.bt] w w3) (h4:Keep [x.bf,x.bt] w w4) {c1 c2:Nat} (h34:Keep [c1,c2] w3 w4) (hc1:w.heap.size≤c1) (hc2:w.heap.size≤c2):
 DK B ev pz mn lw hi O L w r (.returned (.tuple #[plV ((zn:Int),b.1,k),.nilIface])) w4:=by
 have hxm:=aF hx;have b0:=h.b.bud x hxm;have e1:=b0.1.ltp;have e2:=b0.1.ltf;have e3:=b0.1.ltt;have hb4:Bud w4 x.pb x.n x.bf x.bt (sJ k b x.F) (qh b.1 k x.T):=hb.keep h34 (by simp;omega) (by simp;omega) (by simp;omega);obtain⟨q1,q2⟩:=oz.keep (S:=[]) h hx hb4 hI h4;subst hr;exact⟨rfl,by rw[bQ];exact q1,q2⟩
theorem QG {B:Nat} {ev:Nat→Addr} (pz:Nat) (mn lw hi:Int) (O:List (List Int)) (L:List Nd) (v:Nat) (k:Int) (u:Bool) (w:World) (hE:yL B ev w) (h:oz B w pz mn lw hi O L) (hv:v<L.length) (k0:0≤k) (k6:k≤6):
 Calls Tryz.prog 135 #[.pointer (some ⟨pz,0,none⟩),.int .i64 v,.int .i64 k,.bool u] w (DK B ev pz mn lw hi O L w (kU mn O L v k u)):=by
 have hB:=hE.size;obtain⟨D,hD,hDl,hDm⟩:=h.ord.get hv;have hn0:0<D.length:=om;have hnn: ¬((v:Int)<0∨(L.length:Int)≤(v:Int)∨k<0∨6<k):=om;have TNO:Hid (uS mn k u L D=none→kU mn O L v k u=(L,Cx k L,(0,0,0))):=fun hp=>DJ hnn (by simpa using hD) hp
 have TYES:Hid (∀(j:Int) (x:Nd) (b:Int×Int),uS mn k u L D=some j→L[j.toNat]?=some x→mq k x.F=some b→kU mn O L v k u=(L.set j.toNat (wE k b x),0,(j,b.1,k))):=fun j x b hp hx hb=>Aa hnn (by simpa using hD) hp hx hb
 have hb0:Below w.heap.size w ((w.alloc (.cells #[.int .i64 k] 3)).alloc (.cells #[.int .i64 0,.int .i64 0,.int .i64 0] 215)):=jK;have NO:=ah (I8 pz mn lw hi O L v _ (h.below hb0) hv);have L0:=ah ((jD.mk_ w [.int .i64 k] 3 rfl).past (.cells #[.int .i64 0,.int .i64 0,.int .i64 0] 215));have L1:=ah (jD.mk_ (w.alloc (.cells #[.int .i64 k] 3)) [.int .i64 0,.int .i64 0,.int .i64 0] 215 (b:=w.heap.size+1) sI);have HH:=ah h;have HD:=ah hD;have HDM:=ah hDm;have HDL:=ah hDl;have HB0:=ah hb0;have hs:=wm k0 k6;obtain⟨n,hn⟩:=eY L.length;clear h hb0 hD hDm hDl hnn;go_enter Tryz.func135,Tryz.ntmps135;go_wp2_with fail;refine NO.out.mono ?_;rintro e w1 ⟨rfl,hb1⟩;have K1:Below w.heap.size w w1:=HB0.out.trans (hb1.mono (by simp;omega));have h1:=HH.out.below K1;obtain⟨g,off,kn,gO,oO,ko,gD,oD,kD,hz,⟨gy,gl⟩,⟨gOy,gOl⟩,⟨gDy,gDl⟩,⟨ka,kb⟩,⟨kc,kd⟩,⟨ke,kf⟩,hc,hcu,hcD⟩:=h1.row HD.out hn0;have c5:=hz.gC 5;have c6:=hz.gC 6;have cl:=hz.lt;have P:=L0.out.go hb1;have p0:=P.gC 0;have pl:=P.lt;have HP:=ah P;have HM:=ah (L1.out.go hb1);have HZ:=ah hz;have HC:=ah hc;have HCD:=ah hcD;have ml:=HM.out.lt;have H1:=ah h1;unfold maxLen at kb kd kf;clear P NO L0 L1 hz hc hcD h1 HB0;go_wp2_with (go_at_call 160;refine(Dx _ _ ⟨k0,k6⟩).mono ?_;rintro e w' ⟨rfl,rfl⟩);go_loopw [43] (fun iv wr=>∃t:Nat,t≤D.length∧iv= .int .i64 t∧Hid (∀z∈D.take t,Bp mn k u L z=false)∧Below w1.heap.size w1 wr) (fun iv _=>D.length-(intOf iv).toNat);case atStart=>exact⟨0,bq _,by go_num,(show∀z∈D.take 0,Bp mn k u L z=false from sI),aO _ _⟩
 case round=>
  obtain⟨t,ht,rfl,NOK,hbel⟩:=hrel;have zr:=hbel.size;have KR:Below w.heap.size w wr:=K1.trans (hbel.mono (by have:=K1.size;omega));by_cases hlt:t<D.length
  ·obtain⟨z,hz⟩: ∃z,D[t]?=some z:=⟨D[t],aA hlt⟩
   have hzm:=(HDM.out z).1 (aF hz);obtain⟨zn,rfl⟩: ∃zn:Nat,z=zn:=⟨z.toNat,om⟩;obtain⟨x,hx⟩: ∃x,L[zn]?=some x:=⟨L[zn]' om,aA _⟩;have r0:=(hbel.cell (p:=⟨gD,oD+t,none⟩) gDl).trans (HCD.out t _ hz);have q0:=(HP.out.go hbel).gC 0;have ql:=(HP.out.go hbel).lt;have Bz:=HH.out.below KR;have MAY:=ah (may_any pz mn lw hi O L zn x k u wr Bz hx k0 k6);have HX:=ah hx;have HZT:=ah hz;have gr:gD<wr.heap.size:=om;cases hmay:mayN mn k u x with
   |false=>
    rw[hmay] at MAY;have hno:Bp mn k u L (zn:Int)=false:=by unfold Bp;rw[bQ,hx];simp[okN,hmay]
    have NOK2:=ah (uV NOK.out hz hno);clear hz hx Bz hno hmay;go_wp2_with fail;refine MAY.out.mono ?_;rintro e w2 ⟨rfl,hb2⟩;go_wp2;go_roundw;case rel=>exact⟨t+1,om,by go_num,NOK2,hbel.trans (hb2.mono zr)⟩
    case measure=>simp[intOf];omega
   |true=>
    rw[hmay] at MAY;have hI:=(Bz.b.bud x (aF hx)).2;have hxm:=aF hx;have hbfl:=Bz.b.lim x.bf (uz.2 ⟨x,hxm,.inl rfl⟩);have hbtl:=Bz.b.lim x.bt (uz.2 ⟨x,hxm,.inr rfl⟩);have hbf0:=HH.out.b.lim x.bf (uz.2 ⟨x,hxm,.inl rfl⟩);have hbt0:=HH.out.b.lim x.bt (uz.2 ⟨x,hxm,.inr rfl⟩);have cz:Hid (∀W,Keep [x.bf,x.bt] wr W→W.cell? ⟨pz,5,none⟩=some (.slice (some ⟨g,off,none⟩) L.length kn)):=fun W q=>(((HZ.out.go hbel).keep q (by have:=H1.out.out;intro e;apply this;simp at e;exact uz.2 ⟨x,hxm,e⟩)).gC 5)
    have cr:Hid (∀W,Keep [x.bf,x.bt] wr W→W.cell? ⟨g,off+zn,none⟩=some (.pointer (some ⟨x.pb,0,none⟩))):=fun W q=>(q.cell om (by intro e;apply gy;simp at e;exact uz.2 ⟨x,hxm,e⟩)).trans ((hbel.cell (p:=⟨g,off+zn,none⟩) gl).trans (HC.out zn x hx))
    have cp:Hid (∀W,Keep [x.bf,x.bt] wr W→W.cell? ⟨w.heap.size,0,none⟩=some (.int .i64 k)):=fun W q=>((HP.out.go hbel).keep q (by simp;omega)).gC 0
    have c8:Hid (∀W,Keep [x.bf,x.bt] wr W→jD W (w.heap.size+1) [.int .i64 0,.int .i64 0,.int .i64 0]):=fun W q=>(HM.out.go hbel).keep q (by simp;omega)
    have EA:=(Bz.b.bud x hxm).1;have HBUD:=ah EA;have z5:wr.heap.size≤wr.heap.size:=aH _;have HER:Hid (yL B ev wr):=hE.go KR;have HI:=ah hI;clear Bz hI EA;cases hbb:mq k x.F with
    |none=>
     have TF:Hid (∀W,Keep [] wr W→Calls Tryz.prog 162 #[.pointer (some ⟨x.pb,0,none⟩),.int .i64 k] W fun e w'=>e= .returned (.tuple #[.agg #[.int .i64 0,.int .i64 0],.iface 336 (.pointer (some (ev 5)))])∧Below W.heap.size W w'):=fun W q=>TH x.pb x.n x.bf x.bt x.F x.T k W (HER.out.go q.qU).d (HBUD.out.keep q sI sI sI) k0 k6 hbb
     have hno:Bp mn k u L (zn:Int)=false:=by unfold Bp;rw[bQ,hx];simp[okN,hmay,hbb]
     have NOK2:=ah (uV NOK.out hz hno);clear hz hx hno hbb hmay HBUD HER;go_wp2_with fail;refine MAY.out.mono ?_;rintro e w2 ⟨rfl,hb2⟩;have k2:Keep [] wr w2:=Keep.of hb2;have a1:=cz.out w2 k2.wide;have a2:=cr.out w2 k2.wide;have a3:=cp.out w2 k2.wide;have HK2:=ah k2;have z2:=hb2.size;have ne1: ¬(w2.heap.size=pz):=om;have ne2: ¬(w2.heap.size=g):=om;have ne3: ¬(w2.heap.size=w.heap.size):=om;have ne1': ¬(pz=w2.heap.size):=om;have ne2': ¬(g=w2.heap.size):=om;have ne3': ¬(w.heap.size=w2.heap.size):=om;clear MAY k2 r0 q0;go_wp2_with fail;go_region_held3 (fun w'=>w'.cell? ⟨pz,5,none⟩=some (.slice (some ⟨g,off,none⟩) L.length kn)∧w'.cell? ⟨g,off+zn,none⟩=some (.pointer (some ⟨x.pb,0,none⟩))∧w'.cell? ⟨w.heap.size,0,none⟩=some (.int .i64 k)) (go_keep) (first
      |(go_at_call 162;refine(TF.out _ ?_).mono ?_;(repeat(first|exact HK2.out|refine Keep.alloc ?_ _|refine Keep.drew ?_|refine Keep.drewN ?_ _|refine Keep.setCell ?_ (.inr (by first|omega|(simp;omega)|(simp;done))) _));rintro e w3 ⟨rfl,hb3⟩;have k3':Keep [] wr w3:=(by refine Keep.stepW ?_ hb3;(repeat(first|exact HK2.out|refine Keep.alloc ?_ _|refine Keep.drew ?_|refine Keep.drewN ?_ _|refine Keep.setCell ?_ (.inr (by first|omega|(simp;omega)|(simp;done))) _)));have k3:Keep [x.bf,x.bt] wr w3:=k3'.wide;have z3:=k3'.size;have b1:=cz.out w3 k3;have b2:=cr.out w3 k3;have b3:=cp.out w3 k3;(first|(have PN:=((jD.mk_ w2 [.int .i64 0,.int .i64 0] 213 rfl).lT).go hb3;have n0:=PN.gC 0;have n1:=PN.gC 1;have nf0:=PN.f 0 sI;have nf1:=PN.f 1 sI;have nl:=PN.lt;clear PN)|skip)))
     all_goals
      go_wp2;go_roundw;case rel=>exact⟨t+1,om,by go_num,NOK2,hbel.trans ((Keep.qU (kep k3')).mono zr)⟩
      case measure=>simp[intOf];omega
    |some b=>
     have hpick:uS mn k u L D=some (zn:Int):=Hu NOK.out hz (by unfold Bp;rw[bQ,hx];simp[okN,hmay,hbb]);have TT:=ah (TYES.out (zn:Int) x b hpick (by rw[bQ];exact hx) hbb);have TK:Hid (∀W,Keep [] wr W→Calls Tryz.prog 162 #[.pointer (some ⟨x.pb,0,none⟩),.int .i64 k] W fun e w'=>e= .returned (.tuple #[.agg #[.int .i64 b.1,.int .i64 k],.nilIface])∧Bud w' x.pb x.n x.bf x.bt (sJ k b x.F) (qh b.1 k x.T)∧Keep [x.bf,x.bt] W w'):=fun W q=>take_ok x.pb x.n x.bf x.bt x.F x.T k b W (HER.out.go q.qU).c hbfl.1 (HBUD.out.keep q sI sI sI) HI.out k0 k6 hbb
     have HBB:=ah hbb;have HIT:=ah (HI.out.take k0 hbb);obtain⟨b1,b2⟩:=b;simp only at TK TT;clear hz hx hbb hmay HER hpick;go_wp2_with fail;refine MAY.out.mono ?_;rintro e w2 ⟨rfl,hb2⟩;have k2:Keep [] wr w2:=Keep.of hb2;have a1:=cz.out w2 k2.wide;have a2:=cr.out w2 k2.wide;have a3:=cp.out w2 k2.wide;have HK2:=ah k2;have z2:=hb2.size;have ne1: ¬(w2.heap.size=pz):=om;have ne2: ¬(w2.heap.size=g):=om;have ne3: ¬(w2.heap.size=w.heap.size):=om;have ne4: ¬(w2.heap.size=w.heap.size+1):=om;have ne1': ¬(pz=w2.heap.size):=om;have ne2': ¬(g=w2.heap.size):=om;have ne3': ¬(w.heap.size=w2.heap.size):=om;have ne4': ¬(w.heap.size+1=w2.heap.size):=om;have NB:Hid (w2.heap.size∉[x.bf,x.bt]):=by show _∉_;simp;omega
     clear MAY k2 r0 q0;go_wp2_with fail;go_region_held3 (fun w'=>w'.cell? ⟨pz,5,none⟩=some (.slice (some ⟨g,off,none⟩) L.length kn)∧w'.cell? ⟨g,off+zn,none⟩=some (.pointer (some ⟨x.pb,0,none⟩))∧w'.cell? ⟨w.heap.size,0,none⟩=some (.int .i64 k)) (go_keep) (first
      |(go_at_call 162;refine(TK.out _ ?_).mono ?_;(repeat(first|exact HK2.out|refine Keep.alloc ?_ _|refine Keep.drew ?_|refine Keep.drewN ?_ _|refine Keep.setCell ?_ (.inr (by first|omega|(simp;omega)|(simp;done))) _));rintro e w3 ⟨rfl,hbd3,hk3⟩;have k3:Keep [x.bf,x.bt] wr w3:=(by refine Keep.thenW ?_ hk3;(repeat(first|exact HK2.out|refine Keep.alloc ?_ _|refine Keep.drew ?_|refine Keep.drewN ?_ _|refine Keep.setCell ?_ (.inr (by first|omega|(simp;omega)|(simp;done))) _)));have BD3:=ah hbd3;have y1:=cz.out w3 k3;have y2:=cr.out w3 k3;have y3:=cp.out w3 k3;(first|(have PN:=((jD.mk_ w2 [.int .i64 0,.int .i64 0] 213 rfl).lT).keep hk3 NB.out;have n0:=PN.gC 0;have n1:=PN.gC 1;have nf0:=PN.f 0 sI;have nf1:=PN.f 1 sI;have nl:=PN.lt;clear PN)|skip);have M8:=c8.out w3 k3;have m0:=M8.gC 0;have m1:=M8.gC 1;have m2:=M8.gC 2;have f0:=M8.f 0 sI;have f1:=M8.f 1 sI;have f2:=M8.f 2 sI;have ml8:=M8.lt;have HM8:=ah M8;clear M8 hbd3))
     ·have k03:Keep [x.bf,x.bt] w w3:=(Keep.of KR).then k3
      have z03:=k03.size;go_wp2;have LF:=(HM8.out.vU (.int .i64 zn) (.int .i64 b1) (.int .i64 k)).past (.cells #[.int .i64 b1,.int .i64 k] 213);have e0:=LF.gC 0;have e1:=LF.gC 1;have e2:=LF.gC 2;refine bodyPost_ret (v:=.tuple #[plV (zn,b1,k),.nilIface]) (by simp[e0,e1,e2,results,gZ,go_sem,plV]) rfl ?_;refine zhit (c1:=w.heap.size+1) (c2:=w2.heap.size) (TT.out) HH.out HX.out HIT.out BD3.out k03 (kep k03) ?_ om om;refine Keep.trans (S':=[w.heap.size+1,w2.heap.size]) (Keep.refl _ _) ?_ (fun s hs=>.inl hs);repeat(first|exact Keep.refl _ _|refine Keep.alloc ?_ _|refine Keep.setCell ?_ (.inl sI) _)
     ·have k03:Keep [x.bf,x.bt] w w3:=(Keep.of KR).then k3
      have z03:=k03.size;go_wp2;have LF:=((HM8.out.far ne4 0 (.int .i64 b1)).far ne4 1 (.int .i64 k)).vU (.int .i64 zn) (.int .i64 b1) (.int .i64 k);have e0:=LF.gC 0;have e1:=LF.gC 1;have e2:=LF.gC 2;refine bodyPost_ret (v:=.tuple #[plV (zn,b1,k),.nilIface]) (by simp[e0,e1,e2,results,gZ,go_sem,plV]) rfl ?_;refine zhit (c1:=w.heap.size+1) (c2:=w2.heap.size) (TT.out) HH.out HX.out HIT.out BD3.out k03 (kep k03) ?_ om om;refine Keep.trans (S':=[w.heap.size+1,w2.heap.size]) (Keep.refl _ _) ?_ (fun s hs=>.inl hs);repeat(first|exact Keep.refl _ _|refine Keep.alloc ?_ _|refine Keep.setCell ?_ (.inl sI) _)
  ·have et:t=D.length:=by omega
   subst et;have hp:uS mn k u L D=none:=Tt (fun z hz=>NOK.out z (by rw[bU];exact hz));have TT:=ah (TNO.out hp);clear hp NOK;obtain⟨wo,rfl⟩: ∃wo:World,wo=wr:=⟨_,rfl⟩;have q5:=(HZ.out.go hbel).gC 5;have hmf: ∀(fn:Fn) (first cap:Array Value) (w:World),(Instr.makeFunc fn first cap).run Tryz.prog w= .ok (.func fn first cap) w:=fun _ _ _ _=>rfl
   have pzl:pz<wo.heap.size:=om;go_wp2_with fail;go_loopw [75] (fun iv wr=>∃t:Nat,t≤L.length∧iv= .int .i64 t∧Hid (∀y∈L.take t,wY k y=false)∧Below wo.heap.size wo wr) (fun iv _=>L.length-(intOf iv).toNat);case atStart=>exact⟨0,bq _,by go_num,(show∀z∈L.take 0,wY k z=false from sI),aO _ _⟩
   case round=>
    obtain⟨t,ht,rfl,NOS,hbl2⟩:=hrel;have zr2:=hbl2.size;have KR2:Below w.heap.size w wr:=KR.trans (hbl2.mono KR.size);have M8:=ah ((HM.out.go hbel).go hbl2);by_cases hlt:t<L.length
    ·obtain⟨y,hy⟩: ∃y,L[t]?=some y:=⟨L[t],aA hlt⟩
     have Bz:=HH.out.below KR2;have EA:=(Bz.b.bud y (aF hy)).1;have FR:=ah (free_ok y.pb y.n y.bf y.bt y.F y.T wr EA);have r0:=(hbl2.cell (p:=⟨g,off+t,none⟩) (show g<wo.heap.size by omega)).trans ((hbel.cell (p:=⟨g,off+t,none⟩) gl).trans (HC.out t y hy));have gr:g<wr.heap.size:=om;have HY:=ah hy;have PP:=ah ((HP.out.go hbel).go hbl2);clear Bz EA hy;go_wp2_with fail;refine FR.out.mono ?_;rintro e w3 ⟨vF,rfl,hown⟩;have hb3:=hown.2;have z3:=hb3.size;have hrow:GJ 0 w3 vF y.F:=hown.Qr.mono (bq _);have CF:=ah (Tj vF y.F k w.heap.size w3 hrow ((PP.out.go hb3).gC 0) (PP.out.go hb3).lt);have es:y.F.any (zZ k)=wY k y:=rfl;rw[es] at CF;have M3:=ah (M8.out.go hb3);clear FR r0 hrow es hown PP;cases hs:wY k y with
     |false=>
      rw[hs] at CF;have NOS2:=ah (uV NOS.out HY.out hs);clear hs;go_wp2_with fail;refine CF.out.mono ?_;rintro e w4 ⟨rfl,hb4⟩;go_wp2;go_roundw;case rel=>exact⟨t+1,om,by go_num,NOS2,hbl2.trans ((hb3.mono zr2).trans (hb4.mono om))⟩
      case measure=>simp[intOf];omega
     |true=>
      rw[hs] at CF;have hlow:Cx k L=7:=by unfold Cx;rw[if_pos (fC.2 ⟨y,aF HY.out,hs⟩)]
      clear hs;go_wp2_with fail;refine CF.out.mono ?_;rintro e w4 ⟨rfl,hb4⟩;have z4:=hb4.size;have K4:Below w.heap.size w w4:=KR2.trans ((hb3.mono KR2.size).trans (hb4.mono (by have:=KR2.size;omega)));have E4:=hE.go K4;have c7:=E4.c7;have l7:=hE.l7;have ne7: ¬(w.heap.size+1=3):=om;have ne7': ¬(3=w.heap.size+1):=om;have M4:=M3.out.go hb4;have m0:=M4.gC 0;have m1:=M4.gC 1;have m2:=M4.gC 2;have f0:=M4.f 0 sI;have f1:=M4.f 1 sI;have f2:=M4.f 2 sI;have ml8:=M4.lt;have LF:=ah (M4.vU (.int .i64 0) (.int .i64 0) (.int .i64 0));have HLOW:=ah hlow;clear M4 E4 hlow CF;go_wp2;go_region
      all_goals go_wp2
      all_goals
       have e0:=LF.out.gC 0;have e1:=LF.out.gC 1;have e2:=LF.out.gC 2;refine bodyPost_ret (v:=.tuple #[plV (0,0,0),jW ev 7]) (by simp[e0,e1,e2,results,gZ,go_sem,plV]) rfl ?_;rw[TT.out,HLOW.out];refine⟨rfl,HH.out.below (show Below w.heap.size w _ from ?_),Keep.of ?_⟩;all_goals (exact Keep.qU (kep (Keep.of K4)))
    ·have et:t=L.length:=by omega
     subst et;have hlow:Cx k L=5:=by
      unfold Cx;rw[if_neg];intro q;obtain⟨y,hy,hs⟩:=fC.1 q;rw[NOS.out y (by rw[bU];exact hy)] at hs;cases hs
     have E4:=(hE.go KR2).d;have c7:=E4.c5;have l7:=hE.d.l5;have ne7: ¬(w.heap.size+1=4):=om;have ne7': ¬(4=w.heap.size+1):=om;have M4:=M8.out;have m0:=M4.gC 0;have m1:=M4.gC 1;have m2:=M4.gC 2;have f0:=M4.f 0 sI;have f1:=M4.f 1 sI;have f2:=M4.f 2 sI;have ml8:=M4.lt;have LF:=ah (M4.vU (.int .i64 0) (.int .i64 0) (.int .i64 0));have HLOW:=ah hlow;clear M4 E4 hlow;go_wp2;go_region
     all_goals go_wp2
     all_goals
      have e0:=LF.out.gC 0;have e1:=LF.out.gC 1;have e2:=LF.out.gC 2;refine bodyPost_ret (v:=.tuple #[plV (0,0,0),jW ev 5]) (by simp[e0,e1,e2,results,gZ,go_sem,plV]) rfl ?_;rw[TT.out,HLOW.out];refine⟨rfl,HH.out.below (show Below w.heap.size w _ from ?_),Keep.of ?_⟩;all_goals (exact Keep.qU (kep (Keep.of KR2)))
theorem Fu {B:Nat} {ev:Nat→Addr} (pz:Nat) (mn lw hi:Int) (O:List (List Int)) (L:List Nd) (v k:Int) (u:Bool) (w:World) (hE:yL B ev w) (h:oz B w pz mn lw hi O L) (hL:0<L.length):
 Calls Tryz.prog 135 #[.pointer (some ⟨pz,0,none⟩),.int .i64 v,.int .i64 k,.bool u] w (DK B ev pz mn lw hi O L w (kU mn O L v k u)):=by
 by_cases hv:v<0∨(L.length:Int)≤v
 ·refine(QF pz mn lw hi O L v k u w hE h hL hv).mono fun e w' ⟨h1,h2⟩=> ?_
  rw[A9 om];exact⟨h1,h.below h2,Keep.of h2⟩
 ·obtain⟨n,rfl⟩: ∃n:Nat,v=n:=⟨v.toNat,om⟩
  by_cases hk:k<0∨6<k
  ·refine(Ie pz mn lw hi O L n k u w hE h om hk).mono fun e w' ⟨h1,h2⟩=> ?_
   rw[A9 om];exact⟨h1,h.below h2,Keep.of h2⟩
  ·exact QG pz mn lw hi O L n k u w hE h om om om
def GivePost (B:Nat) (ev:Nat→Addr) (pz:Nat) (mn lw hi:Int) (O:List (List Int)) (L:List Nd) (w:World) (r:List Nd×Nat) (e:Ending) (w':World):Prop:=
 e= .returned (jW ev r.2)∧oz B w' pz mn lw hi O r.1∧Keep (ys L) w w'
structure vS (X:List Nat) (B:Nat) (w:World) (pz:Nat) (mn lw hi:Int) (O:List (List Int)) (L:List Nd):Prop where
 z: ∃qn kn qo ko,jD w pz [.slice none 0 0,.slice none 0 0,.int .i64 mn,.int .i64 lw,.int .i64 hi,.slice qn L.length kn,.slice qo L.length ko]∧nC X w (.slice qn L.length kn) (ptrs L)∧Bo X w (.slice qo L.length ko) O
 b:GL B w L
 mem: ∀y∈ys L,y∈X
 out:pz∉X
 outb: ∀x∈L,x.pb∉X
 ord:qY O L.length
 m0:0≤mn∧mn≤lw∧lw≤hi∧hi≤9223372036854775807
theorem Bo.sub {X Y:List Nat} {w:World} {v:Value} {N:List (List Int)} (h:Bo Y w v N) (hX: ∀x∈X,x∈Y):Bo X w v N:=by
 obtain⟨us,h1,h2,h3⟩:=h;exact⟨us,h1,h2.sub hX,fun j u xs hu hx=>(h3 j u xs hu hx).sub hX⟩
section
variable {X Y S:List Nat} {B:Nat} {w w':World} {pz:Nat} {mn lw hi:Int} {O:List (List Int)} {L L':List Nd}
theorem vS.toB (h:vS X B w pz mn lw hi O L):oz B w pz mn lw hi O L:=by
 obtain⟨qn,kn,qo,ko,h1,h2,h3⟩:=h.z;exact⟨⟨qn,kn,qo,ko,h1,h2.sub h.mem,h3.sub h.mem⟩,h.b,fun q=>h.out (h.mem _ q),h.ord,h.m0⟩
theorem oz.toX (h:oz B w pz mn lw hi O L):vS (ys L) B w pz mn lw hi O L:=⟨h.z,h.b,fun _ q=>q,h.out,h.b.out,h.ord,h.m0⟩
theorem vS.keep (h:vS X B w pz mn lw hi O L) (k:Keep S w w') (hs: ∀s∈S,(s∈X∧s∉ys L)∨w.heap.size≤s):vS X B w' pz mn lw hi O L:=by
 obtain⟨qn,kn,qo,ko,h1,h2,h3⟩:=h.z;have hX: ∀s∈S,s∈X∨w.heap.size≤s:=fun s q=>(hs s q).imp And.left id
 refine⟨⟨qn,kn,qo,ko,h1.keep k fun q=> ?_,h2.keep k hX,h3.keep k hX⟩,h.b.keep k fun x hx=>⟨fun q=> ?_,fun q=> ?_,fun q=> ?_⟩,h.mem,h.out,h.outb,h.ord,h.m0⟩
 ·rcases hX _ q with r|r
  ·exact h.out r
  ·have:=h1.lt;omega
 ·rcases hX _ q with r|r
  ·exact h.outb x hx r
  ·have:=(h.b.bud x hx).1.ltp;omega
 ·rcases hs _ q with r|r
  ·exact r.2 (uz.2 ⟨x,hx,.inl rfl⟩)
  ·have:=(h.b.bud x hx).1.ltf;omega
 ·rcases hs _ q with r|r
  ·exact r.2 (uz.2 ⟨x,hx,.inr rfl⟩)
  ·have:=(h.b.bud x hx).1.ltt;omega
theorem vS.below (h:vS X B w pz mn lw hi O L) (k:Below w.heap.size w w'):vS X B w' pz mn lw hi O L:=h.keep (Keep.of (S:=[]) k) (fun s q=>by cases q)
theorem vS.more (h:vS X B w pz mn lw hi O L) (hX: ∀x∈X,x∈Y) (hY: ∀y∈Y,y∈X∨w.heap.size≤y):vS Y B w pz mn lw hi O L:=by
 obtain⟨qn,kn,qo,ko,h1,h2,h3⟩:=h.z;refine⟨⟨qn,kn,qo,ko,h1,h2.more hY,h3.more hY⟩,h.b,fun y hy=>hX y (h.mem y hy),fun q=> ?_,fun x hx q=> ?_,h.ord,h.m0⟩
 ·rcases hY _ q with r|r
  ·exact h.out r
  ·have:=h1.lt;omega
 ·rcases hY _ q with r|r
  ·exact h.outb x hx r
  ·have:=(h.b.bud x hx).1.ltp;omega
theorem vS.after (h:vS X B w pz mn lw hi O L) (k:Keep (ys L) w w') (hb:oz B w' pz mn lw hi O L') (hs:qE L L'):vS X B w' pz mn lw hi O L':=by
 obtain⟨qn,kn,qo,ko,h1,h2,h3⟩:=h.z;have ep:ptrs L'=ptrs L:=hs.map (fun x=>Value.pointer (some ⟨x.pb,0,none⟩)) fun x y q=>by rw[q.pb]
 have el:L'.length=L.length:=hs.1.symm;refine⟨⟨qn,kn,qo,ko,by rw[el];exact h1.keep k (fun q=>h.out (h.mem _ q)),by rw[el,ep];exact h2.keep k (fun s q=>.inl (h.mem s q)),by rw[el];exact h3.keep k (fun s q=>.inl (h.mem s q))⟩,hb.b,by rw[hs.ys];exact h.mem,h.out,fun y hy=> ?_,hb.ord,h.m0⟩;obtain⟨i,hi⟩:=dh hy;have hl:=(au.1 hi).1;obtain⟨x,hx⟩: ∃x,L[i]?=some x:=⟨L[i]' om,aA _⟩;rw[(hs.2 i x y hx hi).pb];exact h.outb x (aF hx)
end
def obV (o:Ob):Value:=.agg #[.int .i64 o.1,.int .i64 o.2]
structure CS (B:Nat) (w:World) (pc pz:Nat) (mn lw hi:Int) (O:List (List Int)) (e:Nat) (X:List Nat) (v:Value) (A:SA) (c:Ca):Prop where
 z:vS X B w pz mn lw hi O c.L
 ch:Ag X B w pc pz e v A c.C
 ne: ∀y∈cay pc v A,y∉ys c.L
 l0:0<c.L.length
section
variable {X Y S:List Nat} {B:Nat} {w w' w1:World} {pc pz e:Nat} {mn lw hi:Int} {O:List (List Int)} {v v':Value} {A:SA} {c:Ca} {L':List Nd}
theorem CS.below (h:CS B w pc pz mn lw hi O e X v A c) (k:Below w.heap.size w w'):CS B w' pc pz mn lw hi O e X v A c:=⟨h.z.below k,h.ch.below k,h.ne,h.l0⟩
theorem CS.keep (h:CS B w pc pz mn lw hi O e X v A c) (k:Keep S w w') (hs: ∀s∈S,s∉cay pc v A∧((s∈X∧s∉ys c.L)∨w.heap.size≤s)):CS B w' pc pz mn lw hi O e X v A c:=
 ⟨h.z.keep k (fun s q=>(hs s q).2),h.ch.keep k (fun s q=>(hs s q).1),h.ne,h.l0⟩
theorem CS.more (h:CS B w pc pz mn lw hi O e X v A c) (hX: ∀x∈X,x∈Y) (hY: ∀y∈Y,y∈X∨w.heap.size≤y):CS B w pc pz mn lw hi O e Y v A c:=⟨h.z.more hX hY,h.ch.more hX,h.ne,h.l0⟩
theorem CS.zone (h:CS B w pc pz mn lw hi O e X v A c) (k:Keep (ys c.L) w w') (hb:oz B w' pz mn lw hi O L') (hs:qE c.L L'):CS B w' pc pz mn lw hi O e X v A ⟨L',c.C⟩:=
 ⟨h.z.after k hb hs,h.ch.keep k (fun s q r=>h.ne s r q),by show∀y∈cay pc v A,y∉ys L';rw[hs.ys];exact h.ne,by show 0<L'.length;rw[←hs.1];exact h.l0⟩
theorem CS.slab (h:CS B w pc pz mn lw hi O e X v A c) {i:Nat} {p:Nat×Nat} (hp:A[i]?=some p):p.1∈cay pc v A∧p.2∈cay pc v A∧p.1≠p.2:=by
 have hm:=aF hp;exact⟨ak _ (aj _ (qH.2 ⟨p,hm,.inl rfl⟩)),ak _ (aj _ (qH.2 ⟨p,hm,.inr rfl⟩)),CK h.ch.nday hp⟩
theorem CS.use (h:CS B w pc pz mn lw hi O e X v A c) {i:Nat} {p:Nat×Nat} (hp:A[i]?=some p) {s:Sl} (hs:tL w' p s) (k:Keep [p.1,p.2] w w'):CS B w' pc pz mn lw hi O e X v A ⟨c.L,c.C.set i s⟩:=by
 obtain⟨m1,m2,_⟩:=h.slab hp;refine⟨h.z.keep k (fun x hx=>.inl ?_),h.ch.use hp hs k,h.ne,h.l0⟩;simp at hx;rcases hx with rfl|rfl
 ·exact⟨h.ch.mem _ m1,h.ne _ m1⟩
 ·exact⟨h.ch.mem _ m2,h.ne _ m2⟩
theorem tL.put {p:Nat×Nat} {s:Sl} {k:Nat} (b:Bool) (h:tL w p s) (hne:p.1≠p.2) (hk:k<s.T.length):
 tL ((w.setCell ⟨p.2,k,none⟩ (.bool b)).setCell ⟨p.1,4,none⟩ (.int .i64 (jQ (nD s k b)))) p (nD s k b)∧Keep [p.1,p.2] w ((w.setCell ⟨p.2,k,none⟩ (.bool b)).setCell ⟨p.1,4,none⟩ (.int .i64 (jQ (nD s k b)))):=by
 refine⟨⟨?_,?_⟩,((Keep.refl _ _).setCell (p:=⟨p.2,k,none⟩) (.inl sI) _).setCell (p:=⟨p.1,4,none⟩) (.inl sI) _⟩
 ·have h1:=(h.1.far (c:=p.2) (fun q=>hne q.symm) k (.bool b)).store 4 (.int .i64 (jQ (nD s k b))) (by simp[oK])
  have e:(oK s p.2).set 4 (.int .i64 (jQ (nD s k b)))=oK (nD s k b) p.2:=by simp[oK,nD]
  rwa [e] at h1
 ·have h2:=(h.2.store k (.bool b) (by rw[oW];exact hk)).far (c:=p.1) hne 4 (.int .i64 (jQ (nD s k b)))
  rw[←Fv] at h2;exact h2
theorem wK {α:Type} {l:List α} {i:Nat} {x:α} (hi:i≤l.length) (j:Nat):(l.take i++x::l.drop i)[j]?=if j<i then l[j]? else if j=i then some x else l[j-1]?:=by
 have hl:(l.take i).length=i:=by rw[bC];omega
 split
 ·rename_i h
  rw[bG om,eO,if_pos h]
 ·split
  ·rename_i h;subst h
   rw[bK om,hl,iV];rfl
  ·rw[bK om,hl]
   obtain⟨d,hd⟩: ∃d,j-i=d+1:=⟨j-i-1,om⟩;rw[hd,List.getElem?_cons_succ,cK];congr 1;omega
theorem Fw (A:SA) (i:Nat) (p:Nat×Nat):kZ (A.take i++p::A.drop i)=(kZ A).take i++ .pointer (some ⟨p.1,0,none⟩)::(kZ A).drop i:=by simp[kZ,List.map_take,List.map_drop]
theorem Ah (A:SA) (i:Nat) (p:Nat×Nat):(ay (A.take i++p::A.drop i)).Perm (p.1::p.2::ay A):=by
 have h:(A.take i++p::A.drop i).Perm (p::A):=by
  have:=gT (a:=p) (l₁:=A.take i) (l₂:=A.drop i);rwa [bX] at this
 exact h.flatMap_right (fun p=>[p.1,p.2])
theorem Ag.ins {C:List Sl} (h:Ag X B w pc pz e v A C) {p:Nat×Nat} {s:Sl} {i n:Nat} (hi:i≤C.length) (k:Keep (jF v) w w1) (own:w1.ownsRow B 211 1 v' (C.length+1) (kZ (A.take i++p::A.drop i))) (hw':w'=w1.setCell ⟨pc,2,none⟩ v') (hs:tL w p s)
 (n1:p.1∉cay pc v A) (n2:p.2∉cay pc v A) (n12:p.1≠p.2) (b1:B≤p.1) (b2:B≤p.2) (hv': ∀y∈jF v',y∈jF v∨w.heap.size≤y):
 Ag (p.1::p.2::(jF v'++X)) B w' pc pz e v' (A.take i++p::A.drop i) (C.take i++s::C.drop i)∧Keep (pc::jF v) w w'∧∀y∈cay pc v' (A.take i++p::A.drop i),y∈cay pc v A∨y=p.1∨y=p.2∨w.heap.size≤y:=by
 obtain⟨n0,nn⟩:=aS.1 h.nd;obtain⟨no,na,nx⟩:=bD.1 nn;have hpv:pc∉jF v:=fun q=>n0 (av _ q)
 have hpa:pc∉ay A:=fun q=>n0 (aj _ q)
 have kk:Keep (pc::jF v) w w':=by rw[hw'];exact(k.mono (fun _ q=>ak _ q)).setCell (p:=⟨pc,2,none⟩) (.inl sI) _
 have hpc:=h.c.lt;have hpv':pc∉jF v':=fun q=>by
  rcases hv' _ q with r|r
  ·exact hpv r
  ·omega
 have key: ∀y∈cay pc v' (A.take i++p::A.drop i),y=pc∨y∈jF v'∨y=p.1∨y=p.2∨y∈ay A:=fun y hy=>by
  rcases aB.1 hy with q|q
  ·exact .inl q
  ·rcases aD.1 q with r|r
   ·exact .inr (.inl r)
   ·have:=(Ah A i p).mem_iff.1 r
    simp at this;rcases this with t|t|t
    ·exact .inr (.inr (.inl t))
    ·exact .inr (.inr (.inr (.inl t)))
    ·exact .inr (.inr (.inr (.inr t)))
 have hal: ∀y∈ay A,B≤y∧y<w.heap.size:=fun y hy=>h.lim y (ak _ (aj _ hy))
 have hvl: ∀y∈jF v',B≤y∧y<w'.heap.size:=fun y hy=>by
  have:=jP own hy;refine⟨this.1,?_⟩;rw[hw'];simpa using this.2
 have e1:(C.take i++s::C.drop i).length=C.length+1:=by simp;omega
 refine⟨⟨?_,?_,?_,fun j r z hr hz=> ?_,fun y hy=> ?_,?_,fun y hy=> ?_⟩,kk,fun y hy=> ?_⟩
 ·rw[hw']
  have:=(h.c.keep k hpv).store 2 v' sI;exact this
 ·rw[e1,hw']
  exact jE own ((Keep.refl [pc] _).setCell (p:=⟨pc,2,none⟩) (.inl sI) _) (fun x hx q=>by simp at hx;subst hx;exact hpv' q)
 ·have:=h.len
  simp;omega
 ·rw[wK (by rw[h.len];exact hi)] at hr
  rw[wK hi] at hz;have old: ∀j r z,A[j]?=some r→C[j]?=some z→tL w' r z:=fun j r z hr hz=>by
   have hm:=aF hr;have a1:r.1∈ay A:=qH.2 ⟨r,hm,.inl rfl⟩;have a2:r.2∈ay A:=qH.2 ⟨r,hm,.inr rfl⟩;refine(h.sl j r z hr hz).keep kk (fun q=> ?_) (fun q=> ?_)
   ·rcases aB.1 q with t|t
    ·exact hpa (t▸a1)
    ·exact nx _ t _ a1 rfl
   ·rcases aB.1 q with t|t
    ·exact hpa (t▸a2)
    ·exact nx _ t _ a2 rfl
  split at hr
  ·rename_i q
   rw[if_pos q] at hz;exact old j r z hr hz
  ·rename_i q
   rw[if_neg q] at hz;split at hr
   ·rename_i t
    rw[if_pos t] at hz;obtain rfl:=aI hr;obtain rfl:=aI hz;refine hs.keep kk (fun q=> ?_) (fun q=> ?_)
    ·rcases aB.1 q with t|t
     ·exact n1 (t▸aG ..)
     ·exact n1 (ak _ (av _ t))
    ·rcases aB.1 q with t|t
     ·exact n2 (t▸aG ..)
     ·exact n2 (ak _ (av _ t))
   ·rename_i t
    rw[if_neg t] at hz;exact old _ r z hr hz
 ·rcases key y hy with q|q|q|q|q
  ·have:=h.mem pc (aG ..)
   subst q;simp[this]
  ·simp[q]
  ·simp[q]
  ·simp[q]
  ·have:=h.mem y (ak _ (aj _ q))
   simp[this]
 ·refine aS.2 ⟨fun q=> ?_,bD.2 ⟨?_,(Ah A i p).nodup_iff.2 ?_,fun a ha b hb hab=> ?_⟩⟩
  ·rcases aD.1 q with r|r
   ·exact hpv' r
   ·have:=(Ah A i p).mem_iff.1 r
    simp at this;rcases this with t|t|t
    ·exact n1 (t▸aG ..)
    ·exact n2 (t▸aG ..)
    ·exact hpa t
  ·unfold jF;cases v'.ownBlock<;>simp
  ·refine aS.2 ⟨fun q=> ?_,aS.2 ⟨fun q=> ?_,na⟩⟩
   ·rcases aB.1 q with t|t
    ·exact n12 t
    ·exact n1 (ak _ (aj _ t))
   ·exact n2 (ak _ (aj _ q))
  ·subst hab
   have hb':=(Ah A i p).mem_iff.1 hb;have hsl:p.1<w.heap.size∧p.2<w.heap.size:=⟨hs.1.lt,hs.2.lt⟩;rcases hv' a ha with r|r
   ·simp at hb'
    rcases hb' with t|t|t
    ·exact n1 (t▸ak _ (av _ r))
    ·exact n2 (t▸ak _ (av _ r))
    ·exact nx _ r _ t rfl
   ·simp at hb'
    rcases hb' with t|t|t
    ·omega
    ·omega
    ·have:=hal _ t;omega
 ·have hz:w.heap.size≤w'.heap.size:=kk.size
  rcases key y hy with q|q|q|q|q
  ·have:=h.lim pc (aG ..)
   subst q;exact⟨this.1,om⟩
  ·exact hvl y q
  ·subst q;have:=hs.1.lt;exact⟨b1,om⟩
  ·subst q;have:=hs.2.lt;exact⟨b2,om⟩
  ·have:=hal y q;exact⟨this.1,om⟩
 ·rcases key y hy with q|q|q|q|q
  ·exact .inl (by subst q;exact aG ..)
  ·rcases hv' y q with r|r
   ·exact .inl (ak _ (av _ r))
   ·exact .inr (.inr (.inr r))
  ·exact .inr (.inl q)
  ·exact .inr (.inr (.inl q))
  ·exact .inl (ak _ (aj _ q))
end
def wideC (P:List Int) (N:List (List Int)):Bool:=decide (20<P.length)||decide (20<N.length)||N.any fun l=>decide (20<l.length)
def wideN (P:List Int) (N:List (List Int)):Int:=if wideC P N=true then 1 else 0
theorem O9 {n:Int} (h1:1≤n) (h2:n≤256):tJ [n] [[0]] 0 0 0=0:=by
 have e1:wX n=false:=by unfold wX;simp;omega
 unfold tJ yU qX sqC Hq yK F8 Ny uQ;simp[e1,qD,qm]
theorem ordOne {D:List Int} (h:D.length=1∧∀x:Int,x∈D↔0≤x∧x<1):D=[0]:=by
 match D,h with
 |[x],h=>
  have:=(h.2 x).1 sI;have e:x=0:=om;rw[e]
theorem ordZ_one {O:List (List Int)} (h:qY O 1):O=[[0]]:=by
 match O,h with
 |[D],h=>
  have:=h.2 D sI;have e:D=[0]:=ordOne (by simpa using this);rw[e]
def OneZ (n:Int) (w:World) (e:Ending) (w':World):Prop:=
 ∃(pz:Nat) (x:Nd),e= .returned (.tuple #[.pointer (some ⟨pz,0,none⟩),.nilIface])∧oz w.heap.size w' pz 0 0 0 [[0]] [x]∧w.heap.size≤pz∧x.n=n∧x.F=uH 0 n∧x.T=[]∧Below w.heap.size w w'
theorem pY.z {B:Nat} {ev:Nat→Addr} {w:World} (h:pY B ev w):yL B ev w:=⟨h.d,h.glob 7 (by decide) (by decide),h.cell 7 (by decide) (by decide)⟩
structure ElS (T E:TypeId) (z:Value) (s b:Nat):Prop where
 und:Tryz.prog.underlying T=some (.slice E)
 info:(Tryz.prog.info? E).map (fun i=>(i.zero,i.size,i.bytes))=some (some z,s,b)
 one:z.cells.size=s
 pos:0<s
 few:b≤64
theorem rY:ElS 38 40 (.agg #[.int .i64 0,.int .i64 0]) 2 16:=⟨Tryz.underlying38,kR,rfl,om,om⟩
theorem Oc {T E:TypeId} {z:Value} {s b:Nat} (hE:ElS T E z s b) {w:World} (ty:TypeId) {base:Nat} {v:Value} {n:Nat} {xs ms:List Value} (hown:w.ownsRow base E s v n xs) {a:Addr} {c:Nat} (hm:ms.length=s) (hc: ∀(j:Nat) (u:Value),ms[j]?=some u→w.cell? (a.add j)=some u) (h1: ∀u∈ms,u.oneCell'=true)
 (hl:n≤70000) (hb:base≤w.heap.size):
 ∃q k w',(Builtin.append_ #[T,T] ty #[v,.slice (some a) 1 c]).run Tryz.prog w= .ok (.slice q (n+1) k) w'∧w'.ownsRow base E s (.slice q (n+1) k) (n+1) (xs++ms)∧w.grownBy w' v.ownBlock:=by
 obtain⟨i0,hi,hz0,hz1,hz2⟩:=info_parts hE.info;have hfew:=hE.few;obtain⟨v',w',hrun,h2,h3,_,h5⟩:=run_append_own_at (P:=Tryz.prog) w base T ty E i0 z s b hE.und hi hz0 hz1 hz2 hE.one hE.pos v n xs hown a 1 c ms
  om hc h1 (by unfold maxLen;omega) (by
   have:(n+1)*b≤70001*64:=eB om hfew;omega) hb
 have hf: ∃q k,v'= .slice q (n+1) k:=by
  rcases h2.2 with⟨e,e2⟩|⟨g',cap',cur,e,_⟩
  ·exact⟨none,0,by rw[e,e2]⟩
  ·exact⟨_,_,e⟩
 obtain⟨q,k,rfl⟩:=hf;exact⟨q,k,w',hrun,h2,h3⟩
theorem FE {T E:TypeId} {z:Value} {s b:Nat} (hE:ElS T E z s b) {base:Nat} {v:Value} {n:Nat} {xs ms:List Value} {w:World} {ad:Addr} {c:Nat} {ops:Array Oper} {o:Oper} {a:Act} {K:Act→World→Prop} {Q:Exit→Act→World→Prop} {F:Prop} (hgd:o.guard=none) (sl x:Operand)
 (ho:o.op= .call {callee:=.builtin .append,args:=#[sl,x],argTypes:=#[T,T]}) (hv:a.eval sl=v) (hx:a.eval x= .slice (some ad) 1 c)
 (hown:w.ownsRow base E s v n xs) (hm:ms.length=s) (hc: ∀(j:Nat) (u:Value),ms[j]?=some u→w.cell? (ad.add j)=some u) (h1: ∀u∈ms,u.oneCell'=true) (hl:n≤70000) (hb:base≤w.heap.size)
 (h: ∀q k w',w'.ownsRow base E s (.slice q (n+1) k) (n+1) (xs++ms)→w.grownBy w' v.ownBlock→K (a.put o.dst (.slice q (n+1) k)) w'):
 if Region.wanted o (yielded ops a.tmps)=true then Oper.wp Tryz.prog o a w K Q else F:=by
 have hw:Region.wanted o (yielded ops a.tmps)=true:=by simp[Region.wanted,hgd]
 rw[if_pos hw];obtain⟨q,k,w',hrun,h2,h3⟩:=Oc hE (w:=w) o.type hown hm hc h1 hl hb (c:=c);unfold Oper.wp execOp;simp only[ho,resolve,invoke,builtin,fA,fI,dS,dZ,bP,dW,hv,hx,hrun];exact h q k w' h2 h3
def Ii (e:Nat) (s:Sl) (k:Nat):List Ob:=(List.range k).filterMap fun k=>if s.T[k]?=some true then some (u7 e s k) else none
theorem DV (e:Nat) (s:Sl):Ii e s s.T.length=obsS e s:=rfl
theorem Od {e:Nat} {s:Sl} {k:Nat} (h:s.T[k]?=some true):Ii e s (k+1)=Ii e s k++[u7 e s k]:=by
 unfold Ii;rw[jq,List.filterMap_append];simp[h]
theorem Ub {e:Nat} {s:Sl} {k:Nat} (h:s.T[k]?=some false):Ii e s (k+1)=Ii e s k:=by
 unfold Ii;rw[jq,List.filterMap_append];simp[h]
theorem DW (e:Nat) (s:Sl) (k:Nat):(Ii e s k).length≤k:=by
 unfold Ii;have:=List.length_filterMap_le (fun k=>if s.T[k]?=some true then some (u7 e s k) else none) (List.range k);simpa using this
theorem FH {e:Nat} {C:List Sl} {i:Nat} {s:Sl} (h:C[i]?=some s):oM e (C.take (i+1))=oM e (C.take i)++obsS e s:=by
 rw[bT,h];unfold oM;simp
theorem DX {e:Nat}: ∀{C:List Sl},(∀s∈C,s.T.length≤64)→(oM e C).length≤64*C.length
 |[],_=>bq _
 |s::C,h=>by
  have h1:=DX (e:=e) (C:=C) fun x hx=>h x (ak _ hx)
  have h2:=h s sI;have h3:=DW e s s.T.length;rw[DV] at h3;have:oM e (s::C)=obsS e s++oM e C:=by simp[oM]
  rw[this,aV,dF];omega
def OwnO (w w':World) (v:Value) (l:List Ob):Prop:=w'.ownsRow w.heap.size 40 2 v l.length (kG l)∧Below w.heap.size w w'
section
variable {B:Nat} {ev:Nat→Addr} {pc pz e:Nat} {mn lw hi:Int} {O:List (List Int)} {X:List Nat} {vs:Value} {A:SA} {c:Ca} {w:World}
def Ij (l:List Pl):List Value:=l.flatMap fun p=>[.int .i64 p.1,.int .i64 p.2.1,.int .i64 p.2.2]
end
end Go.Proofs.YtehhldljdakgeaaGreatDoor
