/- Lemmas and contracts for the claim's last text: ZTake, SCS, ZLaw. -/
import Derived.Test.YtdcbhlcbiokbeaaGreatDoorPf01
import Derived.Test.YtdcbhlcbiokbeaaGreatDoorPf06
import Derived.Test.YtdcbhlcbiokbeaaGreatDoorPf07
set_option linter.unusedSimpArgs false
set_option linter.unusedVariables false
set_option maxHeartbeats 16000000
set_option maxRecDepth 100000
namespace Go.Proofs.YtdcbhlcbiokbeaaGreatDoor
section
open Go.RowKit Go.Maps
attribute [local go_sem ↓] aO aP
def plV (p:Pl):Value:=.agg #[.int .i64 p.1,.int .i64 p.2.1,.int .i64 p.2.2]
structure qQ (B:Nat) (ev:Nat→Addr) (w:World):Prop where
 d:Bv B ev w
 l7:3<B
 c7:w.cell? ⟨3,0,none⟩=some (iJ ev 7)
theorem qQ.below {B:Nat} {ev:Nat→Addr} {w w':World} (h:qQ B ev w) (hb:Below B w w'):qQ B ev w':=
 ⟨h.d.below hb,h.l7,(hb.cell (p:=⟨3,0,none⟩) h.l7).trans h.c7⟩
theorem qQ.size {B:Nat} {ev:Nat→Addr} {w:World} (h:qQ B ev w):B≤w.heap.size:=h.d.size
theorem qQ.go {B:Nat} {ev:Nat→Addr} {w w':World} (h:qQ B ev w) (hb:Below w.heap.size w w'):qQ B ev w':=h.below (hb.mono h.size)
theorem qQ.c {B:Nat} {ev:Nat→Addr} {w:World} (h:qQ B ev w):qV B ev w:=h.d.c
theorem Aq {B:Nat} {ev:Nat→Addr} (pz:Nat) (mn lw hi:Int) (O:List (List Int)) (L:List Nd) (v k:Int) (u:Bool) (w:World) (hE:qQ B ev w) (h:je B w pz mn lw hi O L) (hL:0<L.length) (hv:v<0∨(L.length:Int)≤v):
 Calls Tryz.prog 27 #[.pointer (some ⟨pz,0,none⟩),.int .i64 v,.int .i64 k,.bool u] w fun e w'=>e= .returned (.tuple #[plV (0,0,0),iJ ev 2])∧Below w.heap.size w w':=by
 have hB:=hE.size
 have hb0:Below w.heap.size w ((w.alloc (.cells #[.int .i64 k] 3)).alloc (.cells #[.int .i64 0,.int .i64 0,.int .i64 0] 61)):=iq
 have NO:=ah (zo pz mn lw hi O L v _ (hE.c.below (hb0.mono hB)) (h.below hb0) hL hv)
 have L1:=ah (gX.mk_ (w.alloc (.cells #[.int .i64 k] 3)) [.int .i64 0,.int .i64 0,.int .i64 0] 61 (b:=w.heap.size+1) sI)
 have e1:iJ ev 2= .iface 434 (.pointer (some (ev 2))):=rfl
 rw[e1] at NO ⊢
 clear h hv hE e1 hb0
 go_enter Tryz.func27,Tryz.ntmps27
 go_wp2_with fail
 refine NO.out.mono ?_
 rintro e w1 ⟨rfl,hb1⟩
 have M:=L1.out.go hb1
 have m0:=M.c 0 _ rfl;have m1:=M.c 1 _ rfl;have m2:=M.c 2 _ rfl;have f0:=M.f 0 sI;have f1:=M.f 1 sI;have f2:=M.f 2 sI;have ml:=M.lt
 have HM:=ah (M.tL (.int .i64 0) (.int .i64 0) (.int .i64 0))
 clear M NO L1
 go_wp2
 have x0:=HM.out.c 0 _ rfl;have x1:=HM.out.c 1 _ rfl;have x2:=HM.out.c 2 _ rfl
 exact bodyPost_ret (v:=.tuple #[.agg #[.int .i64 0,.int .i64 0,.int .i64 0],.iface 434 (.pointer (some (ev 2)))]) (by simp[x0,x1,x2,results,fB,go_sem]) rfl ⟨rfl,iq⟩
theorem xZ {B:Nat} {ev:Nat→Addr} (pz:Nat) (mn lw hi:Int) (O:List (List Int)) (L:List Nd) (v:Nat) (k:Int) (u:Bool) (w:World) (hE:qQ B ev w) (h:je B w pz mn lw hi O L) (hv:v<L.length) (hk:k<0∨6<k):
 Calls Tryz.prog 27 #[.pointer (some ⟨pz,0,none⟩),.int .i64 v,.int .i64 k,.bool u] w fun e w'=>e= .returned (.tuple #[plV (0,0,0),iJ ev 2])∧Below w.heap.size w w':=by
 have hB:=hE.size
 have hb0:Below w.heap.size w ((w.alloc (.cells #[.int .i64 k] 3)).alloc (.cells #[.int .i64 0,.int .i64 0,.int .i64 0] 61)):=iq
 have NO:=ah (xU pz mn lw hi O L v _ (h.below hb0) hv)
 have L0:=ah ((gX.mk_ w [.int .i64 k] 3 rfl).past (.cells #[.int .i64 0,.int .i64 0,.int .i64 0] 61))
 have L1:=ah (gX.mk_ (w.alloc (.cells #[.int .i64 k] 3)) [.int .i64 0,.int .i64 0,.int .i64 0] 61 (b:=w.heap.size+1) sI)
 have e1:iJ ev 2= .iface 434 (.pointer (some (ev 2))):=rfl
 have SZ:Hid (∀W,Below w.heap.size w W→Calls Tryz.prog 121 #[.int .i64 k] W fun e w'=>e= .returned (.tuple #[.int .i64 0,iJ ev 2])∧Below W.heap.size W w'):=fun W hb=>size_no k W (hE.c.below (hb.mono hB)) hk
 rw[e1] at SZ ⊢
 clear h hv hE e1 hb0
 go_enter Tryz.func27,Tryz.ntmps27
 go_wp2_with fail
 refine NO.out.mono ?_
 rintro e w1 ⟨rfl,hb1⟩
 have P:=L0.out.go hb1
 have p0:=P.c 0 _ rfl;have pl:=P.lt
 have M:=ah (L1.out.go hb1)
 clear P NO L0 L1
 go_wp2_with fail
 refine(SZ.out _ iq).mono ?_
 rintro e w2 ⟨rfl,hb2⟩
 have M2:=M.out.go hb2
 have m0:=M2.c 0 _ rfl;have m1:=M2.c 1 _ rfl;have m2:=M2.c 2 _ rfl;have f0:=M2.f 0 sI;have f1:=M2.f 1 sI;have f2:=M2.f 2 sI;have ml:=M2.lt
 have HM:=ah (M2.tL (.int .i64 0) (.int .i64 0) (.int .i64 0))
 clear M2 SZ M p0
 have z1:=hb1.size;simp at z1
 go_wp2
 have x0:=HM.out.c 0 _ rfl;have x1:=HM.out.c 1 _ rfl;have x2:=HM.out.c 2 _ rfl
 exact bodyPost_ret (v:=.tuple #[.agg #[.int .i64 0,.int .i64 0,.int .i64 0],.iface 434 (.pointer (some (ev 2)))]) (by simp[x0,x1,x2,results,fB,go_sem]) rfl ⟨rfl,iq⟩
theorem je.row {B:Nat} {w:World} {pz:Nat} {mn lw hi:Int} {O:List (List Int)} {L:List Nd} (h:je B w pz mn lw hi O L) {v:Nat} {D:List Int} (hD:O[v]?=some D) (hD0:0<D.length):
 ∃g off kn gO oO ko gD oD kD,gX w pz [.slice none 0 0,.slice none 0 0,.int .i64 mn,.int .i64 lw,.int .i64 hi,.slice (some ⟨g,off,none⟩) L.length kn,.slice (some ⟨gO,oO,none⟩) L.length ko]∧(g∉ys L∧g<w.heap.size)∧(gO∉ys L∧gO<w.heap.size)∧(gD∉ys L∧gD<w.heap.size)∧(L.length≤kn∧kn≤maxLen)∧(L.length≤ko∧ko≤maxLen)∧(D.length≤kD∧kD≤maxLen)∧
  (∀j y,L[j]?=some y→w.cell? ⟨g,off+j,none⟩=some (.pointer (some ⟨y.pb,0,none⟩)))∧w.cell? ⟨gO,oO+v,none⟩=some (.slice (some ⟨gD,oD,none⟩) D.length kD)∧∀t z,D[t]?=some z→w.cell? ⟨gD,oD+t,none⟩=some (.int .i64 z):=by
 have hl:v<L.length:=by rw[←h.ord.1];exact(ak.1 hD).1
 obtain⟨g,off,kn,qo,ko,hz,hg,hgl,hk1,hk2,hc,hr⟩:=h.open om
 obtain⟨p,cap,e,hc1,hc2,hn⟩:=hr.form
 rw[h.ord.1] at e hc1
 injection e with e1 e2 e3
 subst e1 e3
 obtain⟨gO,oO,u,rfl,hgO,hgOl,hcu,hu⟩:=hn v D hD
 obtain⟨pD,kD,rfl,hkD,hmD,hcD⟩:=hu.int
 obtain⟨x,hx⟩: ∃x,D[0]?=some x:=⟨D[0],aA hD0⟩
 obtain⟨gD,oD,rfl,hgD,hgDl,_⟩:=hcD 0 x hx
 refine⟨g,off,kn,gO,oO,ko,gD,oD,kD,hz,⟨hg,hgl⟩,⟨hgO,hgOl⟩,⟨hgD,hgDl⟩,⟨hk1,hk2⟩,⟨hc1,hc2⟩,⟨hkD,hmD⟩,hc,hcu,fun t z ht=> ?_⟩
 obtain⟨g',o',e,_,_,q⟩:=hcD t z ht
 injection e with e;injection e with ea eb
 subst ea eb
 exact q
theorem sD {α:Type} {D:List α} {t:Nat} {z:α} {P:α→Prop} (h: ∀y∈D.take t,P y) (hz:D[t]?=some z) (hp:P z): ∀y∈D.take (t+1),P y:=by
 rw[bX,hz]
 intro y hy
 simp at hy
 rcases hy with hy|rfl
 ·exact h y hy
 ·exact hp
def uM (B:Nat) (ev:Nat→Addr) (pz:Nat) (mn lw hi:Int) (O:List (List Int)) (L:List Nd) (w:World) (r:List Nd×Nat×Pl) (e:Ending) (w':World):Prop:=
 e= .returned (.tuple #[plV r.2.2,iJ ev r.2.1])∧je B w' pz mn lw hi O r.1∧Keep (ys L) w w'
theorem zhit {B:Nat} {ev:Nat→Addr} {pz:Nat} {mn lw hi:Int} {O:List (List Int)} {L:List Nd} {r:List Nd×Nat×Pl} {w w3 w4:World} {k:Int} {zn:Nat} {x:Nd} {b:Int×Int} (hr:r=(L.set (zn:Int).toNat (qj k b x),0,((zn:Int),b.1,k)))
 (h:je B w pz mn lw hi O L) (hx:L[zn]?=some x) (hI:Inv x.n (oV k b x.F) (lT b.1 k x.T)) (hb:Bud w3 x.pb x.n x.bf x.bt (oV k b x.F) (lT b.1 k x.T)) (h3:Keep [x.bf,x.bt] w w3) (h4:Keep [x.bf,x.bt] w w4) {c1 c2:Nat} (h34:Keep [c1,c2] w3 w4) (hc1:w.heap.size≤c1) (hc2:w.heap.size≤c2):
 uM B ev pz mn lw hi O L w r (.returned (.tuple #[plV ((zn:Int),b.1,k),.nilIface])) w4:=by
 have hxm:=aD hx
 have b0:=h.b.bud x hxm
 have e1:=b0.1.ltp;have e2:=b0.1.ltf;have e3:=b0.1.ltt
 have hb4:Bud w4 x.pb x.n x.bf x.bt (oV k b x.F) (lT b.1 k x.T):=hb.keep h34 (by simp;omega) (by simp;omega) (by simp;omega)
 obtain⟨q1,q2⟩:=je.keep (S:=[]) h hx hb4 hI h4
 subst hr
 exact⟨rfl,by rw[bV];exact q1,q2⟩
theorem Ar {B:Nat} {ev:Nat→Addr} (pz:Nat) (mn lw hi:Int) (O:List (List Int)) (L:List Nd) (v:Nat) (k:Int) (u:Bool) (w:World) (hE:qQ B ev w) (h:je B w pz mn lw hi O L) (hv:v<L.length) (k0:0≤k) (k6:k≤6):
 Calls Tryz.prog 27 #[.pointer (some ⟨pz,0,none⟩),.int .i64 v,.int .i64 k,.bool u] w (uM B ev pz mn lw hi O L w (iQ mn O L v k u)):=by
 have hB:=hE.size
 obtain⟨D,hD,hDl,hDm⟩:=h.ord.get hv
 have hn0:0<D.length:=om
 have hnn: ¬((v:Int)<0∨(L.length:Int)≤(v:Int)∨k<0∨6<k):=om
 have TNO:Hid (p9 mn k u L D=none→iQ mn O L v k u=(L,xK k L,(0,0,0))):=fun hp=>z8 hnn (by simpa using hD) hp
 have TYES:Hid (∀(j:Int) (x:Nd) (b:Int×Int),p9 mn k u L D=some j→L[j.toNat]?=some x→jA k x.F=some b→iQ mn O L v k u=(L.set j.toNat (qj k b x),0,(j,b.1,k))):=fun j x b hp hx hb=>vW hnn (by simpa using hD) hp hx hb
 have hb0:Below w.heap.size w ((w.alloc (.cells #[.int .i64 k] 3)).alloc (.cells #[.int .i64 0,.int .i64 0,.int .i64 0] 61)):=iq
 have NO:=ah (xU pz mn lw hi O L v _ (h.below hb0) hv)
 have L0:=ah ((gX.mk_ w [.int .i64 k] 3 rfl).past (.cells #[.int .i64 0,.int .i64 0,.int .i64 0] 61))
 have L1:=ah (gX.mk_ (w.alloc (.cells #[.int .i64 k] 3)) [.int .i64 0,.int .i64 0,.int .i64 0] 61 (b:=w.heap.size+1) sI)
 have HH:=ah h;have HD:=ah hD;have HDM:=ah hDm;have HDL:=ah hDl;have HB0:=ah hb0
 have hs:=o8 k0 k6
 obtain⟨n,hn⟩: ∃n,n=L.length:=⟨_,rfl⟩
 clear h hb0 hD hDm hDl hnn
 go_enter Tryz.func27,Tryz.ntmps27
 go_wp2_with fail
 refine NO.out.mono ?_
 rintro e w1 ⟨rfl,hb1⟩
 have K1:Below w.heap.size w w1:=HB0.out.trans (hb1.mono (by simp;omega))
 have h1:=HH.out.below K1
 obtain⟨g,off,kn,gO,oO,ko,gD,oD,kD,hz,⟨gy,gl⟩,⟨gOy,gOl⟩,⟨gDy,gDl⟩,⟨ka,kb⟩,⟨kc,kd⟩,⟨ke,kf⟩,hc,hcu,hcD⟩:=h1.row HD.out hn0
 have c5:=hz.c 5 _ rfl;have c6:=hz.c 6 _ rfl;have cl:=hz.lt
 have P:=L0.out.go hb1
 have p0:=P.c 0 _ rfl;have pl:=P.lt
 have HP:=ah P;have HM:=ah (L1.out.go hb1);have HZ:=ah hz;have HC:=ah hc;have HCD:=ah hcD
 have ml:=HM.out.lt
 have H1:=ah h1
 unfold maxLen at kb kd kf
 clear P NO L0 L1 hz hc hcD h1 HB0
 go_wp2_with (go_at_call 121;refine(uG _ _ ⟨k0,k6⟩).mono ?_;rintro e w' ⟨rfl,rfl⟩)
 go_loopw [43] (fun iv wr=>∃t:Nat,t≤D.length∧iv= .int .i64 t∧Hid (∀z∈D.take t,yZ mn k u L z=false)∧Below w1.heap.size w1 wr) (fun iv _=>D.length-(intOf iv).toNat)
 case atStart=>exact⟨0,bC _,by go_num,(show∀z∈D.take 0,yZ mn k u L z=false from sI),aU _ _⟩
 case round=>
  obtain⟨t,ht,rfl,NOK,hbel⟩:=hrel
  have zr:=hbel.size
  have KR:Below w.heap.size w wr:=K1.trans (hbel.mono (by have:=K1.size;omega))
  by_cases hlt:t<D.length
  ·obtain⟨z,hz⟩: ∃z,D[t]?=some z:=⟨D[t],aA hlt⟩
   have hzm:=(HDM.out z).1 (aD hz)
   obtain⟨zn,rfl⟩: ∃zn:Nat,z=zn:=⟨z.toNat,om⟩
   obtain⟨x,hx⟩: ∃x,L[zn]?=some x:=⟨L[zn]' om,aA _⟩
   have r0:=(hbel.cell (p:=⟨gD,oD+t,none⟩) gDl).trans (HCD.out t _ hz)
   have q0:=(HP.out.go hbel).c 0 _ rfl
   have ql:=(HP.out.go hbel).lt
   have tq:=HH.out.below KR
   have MAY:=ah (may_any pz mn lw hi O L zn x k u wr tq hx k0 k6)
   have HX:=ah hx;have HZT:=ah hz
   have gr:gD<wr.heap.size:=om
   cases hmay:mayN mn k u x with
   |false=>
    rw[hmay] at MAY
    have hno:yZ mn k u L (zn:Int)=false:=by unfold yZ;rw[bV,hx];simp[okN,hmay]
    have NOK2:=ah (sD NOK.out hz hno)
    clear hz hx tq hno hmay
    go_wp2_with fail
    refine MAY.out.mono ?_
    rintro e w2 ⟨rfl,hb2⟩
    go_wp2
    go_roundw
    case rel=>exact⟨t+1,om,by go_num,NOK2,hbel.trans (hb2.mono zr)⟩
    case measure=>simp[intOf];omega
   |true=>
    rw[hmay] at MAY
    have hI:=(tq.b.bud x (aD hx)).2
    have hxm:=aD hx
    have hbfl:=tq.b.lim x.bf (mh.2 ⟨x,hxm,.inl rfl⟩)
    have hbtl:=tq.b.lim x.bt (mh.2 ⟨x,hxm,.inr rfl⟩)
    have hbf0:=HH.out.b.lim x.bf (mh.2 ⟨x,hxm,.inl rfl⟩)
    have hbt0:=HH.out.b.lim x.bt (mh.2 ⟨x,hxm,.inr rfl⟩)
    have cz:Hid (∀W,Keep [x.bf,x.bt] wr W→W.cell? ⟨pz,5,none⟩=some (.slice (some ⟨g,off,none⟩) L.length kn)):=fun W q=>(((HZ.out.go hbel).keep q (by have:=H1.out.out;intro e;apply this;simp at e;exact mh.2 ⟨x,hxm,e⟩)).c 5 _ rfl)
    have cr:Hid (∀W,Keep [x.bf,x.bt] wr W→W.cell? ⟨g,off+zn,none⟩=some (.pointer (some ⟨x.pb,0,none⟩))):=fun W q=>(q.cell om (by intro e;apply gy;simp at e;exact mh.2 ⟨x,hxm,e⟩)).trans ((hbel.cell (p:=⟨g,off+zn,none⟩) gl).trans (HC.out zn x hx))
    have cp:Hid (∀W,Keep [x.bf,x.bt] wr W→W.cell? ⟨w.heap.size,0,none⟩=some (.int .i64 k)):=fun W q=>((HP.out.go hbel).keep q (by simp;omega)).c 0 _ rfl
    have c8:Hid (∀W,Keep [x.bf,x.bt] wr W→gX W (w.heap.size+1) [.int .i64 0,.int .i64 0,.int .i64 0]):=fun W q=>(HM.out.go hbel).keep q (by simp;omega)
    have y7:=(tq.b.bud x hxm).1
    have HBUD:=ah y7
    have z5:wr.heap.size≤wr.heap.size:=aI _
    have HER:Hid (qQ B ev wr):=hE.go KR
    have HI:=ah hI
    clear tq hI y7
    cases hbb:jA k x.F with
    |none=>
     have TF:Hid (∀W,Keep [] wr W→Calls Tryz.prog 123 #[.pointer (some ⟨x.pb,0,none⟩),.int .i64 k] W fun e w'=>e= .returned (.tuple #[.agg #[.int .i64 0,.int .i64 0],.iface 434 (.pointer (some (ev 5)))])∧Below W.heap.size W w'):=fun W q=>Ck x.pb x.n x.bf x.bt x.F x.T k W (HER.out.go q.vJ).d (HBUD.out.keep q sI sI sI) k0 k6 hbb
     have hno:yZ mn k u L (zn:Int)=false:=by unfold yZ;rw[bV,hx];simp[okN,hmay,hbb]
     have NOK2:=ah (sD NOK.out hz hno)
     clear hz hx hno hbb hmay HBUD HER
     go_wp2_with fail
     refine MAY.out.mono ?_
     rintro e w2 ⟨rfl,hb2⟩
     have k2:Keep [] wr w2:=Keep.of hb2
     have a1:=cz.out w2 k2.wide;have a2:=cr.out w2 k2.wide;have a3:=cp.out w2 k2.wide
     have HK2:=ah k2
     have z2:=hb2.size
     have ne1: ¬(w2.heap.size=pz):=om
     have ne2: ¬(w2.heap.size=g):=om
     have ne3: ¬(w2.heap.size=w.heap.size):=om
     have ne1': ¬(pz=w2.heap.size):=om
     have ne2': ¬(g=w2.heap.size):=om
     have ne3': ¬(w.heap.size=w2.heap.size):=om
     clear MAY k2 r0 q0
     go_wp2_with fail
     go_region_held3 (fun w'=>w'.cell? ⟨pz,5,none⟩=some (.slice (some ⟨g,off,none⟩) L.length kn)∧w'.cell? ⟨g,off+zn,none⟩=some (.pointer (some ⟨x.pb,0,none⟩))∧w'.cell? ⟨w.heap.size,0,none⟩=some (.int .i64 k)) (go_keep) (first
      |(go_at_call 123;refine(TF.out _ ?_).mono ?_;(repeat(first|exact HK2.out|refine Keep.alloc ?_ _|refine Keep.drew ?_|refine Keep.drewN ?_ _|refine Keep.setCell ?_ (.inr (by first|omega|(simp;omega)|(simp;done))) _));rintro e w3 ⟨rfl,hb3⟩;have k3':Keep [] wr w3:=(by refine Keep.stepW ?_ hb3;(repeat(first|exact HK2.out|refine Keep.alloc ?_ _|refine Keep.drew ?_|refine Keep.drewN ?_ _|refine Keep.setCell ?_ (.inr (by first|omega|(simp;omega)|(simp;done))) _)));have k3:Keep [x.bf,x.bt] wr w3:=k3'.wide;have z3:=k3'.size;have b1:=cz.out w3 k3;have b2:=cr.out w3 k3;have b3:=cp.out w3 k3;(first|(have PN:=((gX.mk_ w2 [.int .i64 0,.int .i64 0] 59 rfl).jO).go hb3;have n0:=PN.c 0 _ rfl;have n1:=PN.c 1 _ rfl;have nf0:=PN.f 0 sI;have nf1:=PN.f 1 sI;have nl:=PN.lt;clear PN)|skip)))
     all_goals
      go_wp2
      go_roundw
      case rel=>exact⟨t+1,om,by go_num,NOK2,hbel.trans ((Keep.vJ (by repeat(first|exact k3'|refine Keep.alloc ?_ _|refine Keep.drew ?_|refine Keep.drewN ?_ _|refine Keep.setCell ?_ (.inr (by first|omega|(simp;omega)|(simp;done))) _))).mono zr)⟩
      case measure=>simp[intOf];omega
    |some b=>
     have hpick:p9 mn k u L D=some (zn:Int):=find_at NOK.out hz (by unfold yZ;rw[bV,hx];simp[okN,hmay,hbb])
     have TT:=ah (TYES.out (zn:Int) x b hpick (by rw[bV];exact hx) hbb)
     have TK:Hid (∀W,Keep [] wr W→Calls Tryz.prog 123 #[.pointer (some ⟨x.pb,0,none⟩),.int .i64 k] W fun e w'=>e= .returned (.tuple #[.agg #[.int .i64 b.1,.int .i64 k],.nilIface])∧Bud w' x.pb x.n x.bf x.bt (oV k b x.F) (lT b.1 k x.T)∧Keep [x.bf,x.bt] W w'):=fun W q=>take_ok x.pb x.n x.bf x.bt x.F x.T k b W (HER.out.go q.vJ).c hbfl.1 (HBUD.out.keep q sI sI sI) HI.out k0 k6 hbb
     have HBB:=ah hbb
     have HIT:=ah (HI.out.take k0 hbb)
     obtain⟨b1,b2⟩:=b
     simp only at TK TT
     clear hz hx hbb hmay HER hpick
     go_wp2_with fail
     refine MAY.out.mono ?_
     rintro e w2 ⟨rfl,hb2⟩
     have k2:Keep [] wr w2:=Keep.of hb2
     have a1:=cz.out w2 k2.wide;have a2:=cr.out w2 k2.wide;have a3:=cp.out w2 k2.wide
     have HK2:=ah k2
     have z2:=hb2.size
     have ne1: ¬(w2.heap.size=pz):=om
     have ne2: ¬(w2.heap.size=g):=om
     have ne3: ¬(w2.heap.size=w.heap.size):=om
     have ne4: ¬(w2.heap.size=w.heap.size+1):=om
     have ne1': ¬(pz=w2.heap.size):=om
     have ne2': ¬(g=w2.heap.size):=om
     have ne3': ¬(w.heap.size=w2.heap.size):=om
     have ne4': ¬(w.heap.size+1=w2.heap.size):=om
     have NB:Hid (w2.heap.size∉[x.bf,x.bt]):=by show _∉_;simp;omega
     clear MAY k2 r0 q0
     go_wp2_with fail
     go_region_held3 (fun w'=>w'.cell? ⟨pz,5,none⟩=some (.slice (some ⟨g,off,none⟩) L.length kn)∧w'.cell? ⟨g,off+zn,none⟩=some (.pointer (some ⟨x.pb,0,none⟩))∧w'.cell? ⟨w.heap.size,0,none⟩=some (.int .i64 k)) (go_keep) (first
      |(go_at_call 123;refine(TK.out _ ?_).mono ?_;(repeat(first|exact HK2.out|refine Keep.alloc ?_ _|refine Keep.drew ?_|refine Keep.drewN ?_ _|refine Keep.setCell ?_ (.inr (by first|omega|(simp;omega)|(simp;done))) _));rintro e w3 ⟨rfl,hbd3,hk3⟩;have k3:Keep [x.bf,x.bt] wr w3:=(by refine Keep.thenW ?_ hk3;(repeat(first|exact HK2.out|refine Keep.alloc ?_ _|refine Keep.drew ?_|refine Keep.drewN ?_ _|refine Keep.setCell ?_ (.inr (by first|omega|(simp;omega)|(simp;done))) _)));have BD3:=ah hbd3;have y1:=cz.out w3 k3;have y2:=cr.out w3 k3;have y3:=cp.out w3 k3;(first|(have PN:=((gX.mk_ w2 [.int .i64 0,.int .i64 0] 59 rfl).jO).keep hk3 NB.out;have n0:=PN.c 0 _ rfl;have n1:=PN.c 1 _ rfl;have nf0:=PN.f 0 sI;have nf1:=PN.f 1 sI;have nl:=PN.lt;clear PN)|skip);have M8:=c8.out w3 k3;have m0:=M8.c 0 _ rfl;have m1:=M8.c 1 _ rfl;have m2:=M8.c 2 _ rfl;have f0:=M8.f 0 sI;have f1:=M8.f 1 sI;have f2:=M8.f 2 sI;have ml8:=M8.lt;have HM8:=ah M8;clear M8 hbd3))
     ·have k03:Keep [x.bf,x.bt] w w3:=(Keep.of KR).then k3
      have z03:=k03.size
      go_wp2
      have LF:=(HM8.out.tL (.int .i64 zn) (.int .i64 b1) (.int .i64 k)).past (.cells #[.int .i64 b1,.int .i64 k] 59)
      have e0:=LF.c 0 _ rfl;have e1:=LF.c 1 _ rfl;have e2:=LF.c 2 _ rfl
      refine bodyPost_ret (v:=.tuple #[plV (zn,b1,k),.nilIface]) (by simp[e0,e1,e2,results,fB,go_sem,plV]) rfl ?_
      refine zhit (c1:=w.heap.size+1) (c2:=w2.heap.size) (TT.out) HH.out HX.out HIT.out BD3.out k03 (by repeat(first|exact k03|refine Keep.alloc ?_ _|refine Keep.drew ?_|refine Keep.drewN ?_ _|refine Keep.setCell ?_ (.inr (by first|omega|(simp;omega)|(simp;done))) _)) ?_ om om
      refine Keep.trans (S':=[w.heap.size+1,w2.heap.size]) (Keep.refl _ _) ?_ (fun s hs=>.inl hs)
      repeat(first|exact Keep.refl _ _|refine Keep.alloc ?_ _|refine Keep.setCell ?_ (.inl sI) _)
     ·have k03:Keep [x.bf,x.bt] w w3:=(Keep.of KR).then k3
      have z03:=k03.size
      go_wp2
      have LF:=((HM8.out.far ne4 0 (.int .i64 b1)).far ne4 1 (.int .i64 k)).tL (.int .i64 zn) (.int .i64 b1) (.int .i64 k)
      have e0:=LF.c 0 _ rfl;have e1:=LF.c 1 _ rfl;have e2:=LF.c 2 _ rfl
      refine bodyPost_ret (v:=.tuple #[plV (zn,b1,k),.nilIface]) (by simp[e0,e1,e2,results,fB,go_sem,plV]) rfl ?_
      refine zhit (c1:=w.heap.size+1) (c2:=w2.heap.size) (TT.out) HH.out HX.out HIT.out BD3.out k03 (by repeat(first|exact k03|refine Keep.alloc ?_ _|refine Keep.drew ?_|refine Keep.drewN ?_ _|refine Keep.setCell ?_ (.inr (by first|omega|(simp;omega)|(simp;done))) _)) ?_ om om
      refine Keep.trans (S':=[w.heap.size+1,w2.heap.size]) (Keep.refl _ _) ?_ (fun s hs=>.inl hs)
      repeat(first|exact Keep.refl _ _|refine Keep.alloc ?_ _|refine Keep.setCell ?_ (.inl sI) _)
  ·have et:t=D.length:=by omega
   subst et
   have hp:p9 mn k u L D=none:=find_no (fun z hz=>NOK.out z (by rw[bQ];exact hz))
   have TT:=ah (TNO.out hp)
   clear hp NOK
   obtain⟨wo,rfl⟩: ∃wo:World,wo=wr:=⟨_,rfl⟩
   have q5:=(HZ.out.go hbel).c 5 _ rfl
   have hmf: ∀(fn:Fn) (first cap:Array Value) (w:World),(Instr.makeFunc fn first cap).run Tryz.prog w= .ok (.func fn first cap) w:=fun _ _ _ _=>rfl
   have pzl:pz<wo.heap.size:=om
   go_wp2_with fail
   go_loopw [75] (fun iv wr=>∃t:Nat,t≤L.length∧iv= .int .i64 t∧Hid (∀y∈L.take t,xJ k y=false)∧Below wo.heap.size wo wr) (fun iv _=>L.length-(intOf iv).toNat)
   case atStart=>exact⟨0,bC _,by go_num,(show∀z∈L.take 0,xJ k z=false from sI),aU _ _⟩
   case round=>
    obtain⟨t,ht,rfl,NOS,hbl2⟩:=hrel
    have zr2:=hbl2.size
    have KR2:Below w.heap.size w wr:=KR.trans (hbl2.mono KR.size)
    have M8:=ah ((HM.out.go hbel).go hbl2)
    by_cases hlt:t<L.length
    ·obtain⟨y,hy⟩: ∃y,L[t]?=some y:=⟨L[t],aA hlt⟩
     have tq:=HH.out.below KR2
     have y7:=(tq.b.bud y (aD hy)).1
     have FR:=ah (free_ok y.pb y.n y.bf y.bt y.F y.T wr y7)
     have r0:=(hbl2.cell (p:=⟨g,off+t,none⟩) (show g<wo.heap.size by omega)).trans ((hbel.cell (p:=⟨g,off+t,none⟩) gl).trans (HC.out t y hy))
     have gr:g<wr.heap.size:=om
     have HY:=ah hy
     have PP:=ah ((HP.out.go hbel).go hbl2)
     clear tq y7 hy
     go_wp2_with fail
     refine FR.out.mono ?_
     rintro e w3 ⟨vF,rfl,hown⟩
     have hb3:=hown.2
     have z3:=hb3.size
     have hrow:RowT 0 w3 vF y.F:=hown.rowT.mono (bC _)
     have CF:=ah (BP vF y.F k w.heap.size w3 hrow ((PP.out.go hb3).c 0 _ rfl) (PP.out.go hb3).lt)
     have es:y.F.any (rY k)=xJ k y:=rfl
     rw[es] at CF
     have M3:=ah (M8.out.go hb3)
     clear FR r0 hrow es hown PP
     cases hs:xJ k y with
     |false=>
      rw[hs] at CF
      have NOS2:=ah (sD NOS.out HY.out hs)
      clear hs
      go_wp2_with fail
      refine CF.out.mono ?_
      rintro e w4 ⟨rfl,hb4⟩
      go_wp2
      go_roundw
      case rel=>exact⟨t+1,om,by go_num,NOS2,hbl2.trans ((hb3.mono zr2).trans (hb4.mono om))⟩
      case measure=>simp[intOf];omega
     |true=>
      rw[hs] at CF
      have hlow:xK k L=7:=by unfold xK;rw[if_pos (fF.2 ⟨y,aD HY.out,hs⟩)]
      clear hs
      go_wp2_with fail
      refine CF.out.mono ?_
      rintro e w4 ⟨rfl,hb4⟩
      have z4:=hb4.size
      have K4:Below w.heap.size w w4:=KR2.trans ((hb3.mono KR2.size).trans (hb4.mono (by have:=KR2.size;omega)))
      have E4:=hE.go K4
      have c7:=E4.c7
      have l7:=hE.l7
      have ne7: ¬(w.heap.size+1=3):=om
      have ne7': ¬(3=w.heap.size+1):=om
      have M4:=M3.out.go hb4
      have m0:=M4.c 0 _ rfl;have m1:=M4.c 1 _ rfl;have m2:=M4.c 2 _ rfl;have f0:=M4.f 0 sI;have f1:=M4.f 1 sI;have f2:=M4.f 2 sI;have ml8:=M4.lt
      have LF:=ah (M4.tL (.int .i64 0) (.int .i64 0) (.int .i64 0))
      have HLOW:=ah hlow
      clear M4 E4 hlow CF
      go_wp2
      go_region
      all_goals go_wp2
      all_goals
       have e0:=LF.out.c 0 _ rfl;have e1:=LF.out.c 1 _ rfl;have e2:=LF.out.c 2 _ rfl
       refine bodyPost_ret (v:=.tuple #[plV (0,0,0),iJ ev 7]) (by simp[e0,e1,e2,results,fB,go_sem,plV]) rfl ?_
       rw[TT.out,HLOW.out]
       refine⟨rfl,HH.out.below (show Below w.heap.size w _ from ?_),Keep.of ?_⟩
       all_goals (exact Keep.vJ (by repeat(first|exact Keep.of K4|refine Keep.alloc ?_ _|refine Keep.drew ?_|refine Keep.drewN ?_ _|refine Keep.setCell ?_ (.inr (by first|omega|(simp;omega)|(simp;done))) _)))
    ·have et:t=L.length:=by omega
     subst et
     have hlow:xK k L=5:=by
      unfold xK
      rw[if_neg]
      intro q
      obtain⟨y,hy,hs⟩:=fF.1 q
      rw[NOS.out y (by rw[bQ];exact hy)] at hs
      cases hs
     have E4:=(hE.go KR2).d
     have c7:=E4.c5
     have l7:=hE.d.l5
     have ne7: ¬(w.heap.size+1=4):=om
     have ne7': ¬(4=w.heap.size+1):=om
     have M4:=M8.out
     have m0:=M4.c 0 _ rfl;have m1:=M4.c 1 _ rfl;have m2:=M4.c 2 _ rfl;have f0:=M4.f 0 sI;have f1:=M4.f 1 sI;have f2:=M4.f 2 sI;have ml8:=M4.lt
     have LF:=ah (M4.tL (.int .i64 0) (.int .i64 0) (.int .i64 0))
     have HLOW:=ah hlow
     clear M4 E4 hlow
     go_wp2
     go_region
     all_goals go_wp2
     all_goals
      have e0:=LF.out.c 0 _ rfl;have e1:=LF.out.c 1 _ rfl;have e2:=LF.out.c 2 _ rfl
      refine bodyPost_ret (v:=.tuple #[plV (0,0,0),iJ ev 5]) (by simp[e0,e1,e2,results,fB,go_sem,plV]) rfl ?_
      rw[TT.out,HLOW.out]
      refine⟨rfl,HH.out.below (show Below w.heap.size w _ from ?_),Keep.of ?_⟩
      all_goals (exact Keep.vJ (by repeat(first|exact Keep.of KR2|refine Keep.alloc ?_ _|refine Keep.drew ?_|refine Keep.drewN ?_ _|refine Keep.setCell ?_ (.inr (by first|omega|(simp;omega)|(simp;done))) _)))
theorem wm {B:Nat} {ev:Nat→Addr} (pz:Nat) (mn lw hi:Int) (O:List (List Int)) (L:List Nd) (v k:Int) (u:Bool) (w:World) (hE:qQ B ev w) (h:je B w pz mn lw hi O L) (hL:0<L.length):
 Calls Tryz.prog 27 #[.pointer (some ⟨pz,0,none⟩),.int .i64 v,.int .i64 k,.bool u] w (uM B ev pz mn lw hi O L w (iQ mn O L v k u)):=by
 by_cases hv:v<0∨(L.length:Int)≤v
 ·refine(Aq pz mn lw hi O L v k u w hE h hL hv).mono fun e w' ⟨h1,h2⟩=> ?_
  rw[vV om]
  exact⟨h1,h.below h2,Keep.of h2⟩
 ·obtain⟨n,rfl⟩: ∃n:Nat,v=n:=⟨v.toNat,om⟩
  by_cases hk:k<0∨6<k
  ·refine(xZ pz mn lw hi O L n k u w hE h om hk).mono fun e w' ⟨h1,h2⟩=> ?_
   rw[vV om]
   exact⟨h1,h.below h2,Keep.of h2⟩
  ·exact Ar pz mn lw hi O L n k u w hE h om om om
end
section
open Go.RowKit Go.Maps
def GivePost (B:Nat) (ev:Nat→Addr) (pz:Nat) (mn lw hi:Int) (O:List (List Int)) (L:List Nd) (w:World) (r:List Nd×Nat) (e:Ending) (w':World):Prop:=
 e= .returned (iJ ev r.2)∧je B w' pz mn lw hi O r.1∧Keep (ys L) w w'
end
section
open Go.RowKit Go.Maps
structure nT (X:List Nat) (B:Nat) (w:World) (pz:Nat) (mn lw hi:Int) (O:List (List Int)) (L:List Nd):Prop where
 z: ∃qn kn qo ko,gX w pz [.slice none 0 0,.slice none 0 0,.int .i64 mn,.int .i64 lw,.int .i64 hi,.slice qn L.length kn,.slice qo L.length ko]∧jy X w (.slice qn L.length kn) (ptrs L)∧sV X w (.slice qo L.length ko) O
 b:xq B w L
 mem: ∀y∈ys L,y∈X
 out:pz∉X
 outb: ∀x∈L,x.pb∉X
 ord:nM O L.length
 m0:0≤mn∧mn≤lw∧lw≤hi∧hi≤9223372036854775807
theorem sV.sub {X Y:List Nat} {w:World} {v:Value} {N:List (List Int)} (h:sV Y w v N) (hX: ∀x∈X,x∈Y):sV X w v N:=by
 obtain⟨us,h1,h2,h3⟩:=h
 exact⟨us,h1,h2.sub hX,fun j u xs hu hx=>(h3 j u xs hu hx).sub hX⟩
section
variable {X Y S:List Nat} {B:Nat} {w w':World} {pz:Nat} {mn lw hi:Int} {O:List (List Int)} {L L':List Nd}
theorem nT.toB (h:nT X B w pz mn lw hi O L):je B w pz mn lw hi O L:=by
 obtain⟨qn,kn,qo,ko,h1,h2,h3⟩:=h.z
 exact⟨⟨qn,kn,qo,ko,h1,h2.sub h.mem,h3.sub h.mem⟩,h.b,fun q=>h.out (h.mem _ q),h.ord,h.m0⟩
theorem je.toX (h:je B w pz mn lw hi O L):nT (ys L) B w pz mn lw hi O L:=⟨h.z,h.b,fun _ q=>q,h.out,h.b.out,h.ord,h.m0⟩
theorem nT.keep (h:nT X B w pz mn lw hi O L) (k:Keep S w w') (hs: ∀s∈S,(s∈X∧s∉ys L)∨w.heap.size≤s):nT X B w' pz mn lw hi O L:=by
 obtain⟨qn,kn,qo,ko,h1,h2,h3⟩:=h.z
 have hX: ∀s∈S,s∈X∨w.heap.size≤s:=fun s q=>(hs s q).imp And.left id
 refine⟨⟨qn,kn,qo,ko,h1.keep k fun q=> ?_,h2.keep k hX,h3.keep k hX⟩,h.b.keep k fun x hx=>⟨fun q=> ?_,fun q=> ?_,fun q=> ?_⟩,h.mem,h.out,h.outb,h.ord,h.m0⟩
 ·rcases hX _ q with r|r
  ·exact h.out r
  ·have:=h1.lt;omega
 ·rcases hX _ q with r|r
  ·exact h.outb x hx r
  ·have:=(h.b.bud x hx).1.ltp;omega
 ·rcases hs _ q with r|r
  ·exact r.2 (mh.2 ⟨x,hx,.inl rfl⟩)
  ·have:=(h.b.bud x hx).1.ltf;omega
 ·rcases hs _ q with r|r
  ·exact r.2 (mh.2 ⟨x,hx,.inr rfl⟩)
  ·have:=(h.b.bud x hx).1.ltt;omega
theorem nT.below (h:nT X B w pz mn lw hi O L) (k:Below w.heap.size w w'):nT X B w' pz mn lw hi O L:=h.keep (Keep.of (S:=[]) k) (fun s q=>by cases q)
theorem nT.more (h:nT X B w pz mn lw hi O L) (hX: ∀x∈X,x∈Y) (hY: ∀y∈Y,y∈X∨w.heap.size≤y):nT Y B w pz mn lw hi O L:=by
 obtain⟨qn,kn,qo,ko,h1,h2,h3⟩:=h.z
 refine⟨⟨qn,kn,qo,ko,h1,h2.more hY,h3.more hY⟩,h.b,fun y hy=>hX y (h.mem y hy),fun q=> ?_,fun x hx q=> ?_,h.ord,h.m0⟩
 ·rcases hY _ q with r|r
  ·exact h.out r
  ·have:=h1.lt;omega
 ·rcases hY _ q with r|r
  ·exact h.outb x hx r
  ·have:=(h.b.bud x hx).1.ltp;omega
theorem nT.after (h:nT X B w pz mn lw hi O L) (k:Keep (ys L) w w') (hb:je B w' pz mn lw hi O L') (hs:jQ L L'):nT X B w' pz mn lw hi O L':=by
 obtain⟨qn,kn,qo,ko,h1,h2,h3⟩:=h.z
 have ep:ptrs L'=ptrs L:=hs.map (fun x=>Value.pointer (some ⟨x.pb,0,none⟩)) fun x y q=>by rw[q.pb]
 have el:L'.length=L.length:=hs.1.symm
 refine⟨⟨qn,kn,qo,ko,by rw[el];exact h1.keep k (fun q=>h.out (h.mem _ q)),by rw[el,ep];exact h2.keep k (fun s q=>.inl (h.mem s q)),by rw[el];exact h3.keep k (fun s q=>.inl (h.mem s q))⟩,hb.b,by rw[hs.ys];exact h.mem,h.out,fun y hy=> ?_,hb.ord,h.m0⟩
 obtain⟨i,hi⟩:=dD hy
 have hl:=(ak.1 hi).1
 obtain⟨x,hx⟩: ∃x,L[i]?=some x:=⟨L[i]' om,aA _⟩
 rw[(hs.2 i x y hx hi).pb]
 exact h.outb x (aD hx)
end
end
section
open Go.RowKit Go.Maps
def obV (o:Ob):Value:=.agg #[.int .i64 o.1,.int .i64 o.2]
structure CS (B:Nat) (w:World) (pc pz:Nat) (mn lw hi:Int) (O:List (List Int)) (e:Nat) (X:List Nat) (v:Value) (A:SA) (c:Ca):Prop where
 z:nT X B w pz mn lw hi O c.L
 ch:sF X B w pc pz e v A c.C
 ne: ∀y∈cay pc v A,y∉ys c.L
 l0:0<c.L.length
section
variable {X Y S:List Nat} {B:Nat} {w w' w1:World} {pc pz e:Nat} {mn lw hi:Int} {O:List (List Int)} {v v':Value} {A:SA} {c:Ca} {L':List Nd}
theorem CS.below (h:CS B w pc pz mn lw hi O e X v A c) (k:Below w.heap.size w w'):CS B w' pc pz mn lw hi O e X v A c:=⟨h.z.below k,h.ch.below k,h.ne,h.l0⟩
theorem CS.keep (h:CS B w pc pz mn lw hi O e X v A c) (k:Keep S w w') (hs: ∀s∈S,s∉cay pc v A∧((s∈X∧s∉ys c.L)∨w.heap.size≤s)):CS B w' pc pz mn lw hi O e X v A c:=
 ⟨h.z.keep k (fun s q=>(hs s q).2),h.ch.keep k (fun s q=>(hs s q).1),h.ne,h.l0⟩
theorem CS.more (h:CS B w pc pz mn lw hi O e X v A c) (hX: ∀x∈X,x∈Y) (hY: ∀y∈Y,y∈X∨w.heap.size≤y):CS B w pc pz mn lw hi O e Y v A c:=⟨h.z.more hX hY,h.ch.more hX,h.ne,h.l0⟩
theorem CS.zone (h:CS B w pc pz mn lw hi O e X v A c) (k:Keep (ys c.L) w w') (hb:je B w' pz mn lw hi O L') (hs:jQ c.L L'):CS B w' pc pz mn lw hi O e X v A ⟨L',c.C⟩:=
 ⟨h.z.after k hb hs,h.ch.keep k (fun s q r=>h.ne s r q),by show∀y∈cay pc v A,y∉ys L';rw[hs.ys];exact h.ne,by show 0<L'.length;rw[←hs.1];exact h.l0⟩
theorem CS.slab (h:CS B w pc pz mn lw hi O e X v A c) {i:Nat} {p:Nat×Nat} (hp:A[i]?=some p):p.1∈cay pc v A∧p.2∈cay pc v A∧p.1≠p.2:=by
 have hm:=aD hp
 exact⟨au _ (aj _ (jR.2 ⟨p,hm,.inl rfl⟩)),au _ (aj _ (jR.2 ⟨p,hm,.inr rfl⟩)),Au h.ch.nday hp⟩
theorem CS.use (h:CS B w pc pz mn lw hi O e X v A c) {i:Nat} {p:Nat×Nat} (hp:A[i]?=some p) {s:Sl} (hs:lK w' p s) (k:Keep [p.1,p.2] w w'):CS B w' pc pz mn lw hi O e X v A ⟨c.L,c.C.set i s⟩:=by
 obtain⟨m1,m2,_⟩:=h.slab hp
 refine⟨h.z.keep k (fun x hx=>.inl ?_),h.ch.use hp hs k,h.ne,h.l0⟩
 simp at hx
 rcases hx with rfl|rfl
 ·exact⟨h.ch.mem _ m1,h.ne _ m1⟩
 ·exact⟨h.ch.mem _ m2,h.ne _ m2⟩
theorem lK.put {p:Nat×Nat} {s:Sl} {k:Nat} (b:Bool) (h:lK w p s) (hne:p.1≠p.2) (hk:k<s.T.length):
 lK ((w.setCell ⟨p.2,k,none⟩ (.bool b)).setCell ⟨p.1,4,none⟩ (.int .i64 (iC (jB s k b)))) p (jB s k b)∧Keep [p.1,p.2] w ((w.setCell ⟨p.2,k,none⟩ (.bool b)).setCell ⟨p.1,4,none⟩ (.int .i64 (iC (jB s k b)))):=by
 refine⟨⟨?_,?_⟩,((Keep.refl _ _).setCell (p:=⟨p.2,k,none⟩) (.inl sI) _).setCell (p:=⟨p.1,4,none⟩) (.inl sI) _⟩
 ·have h1:=(h.1.far (c:=p.2) (fun q=>hne q.symm) k (.bool b)).store 4 (.int .i64 (iC (jB s k b))) (by simp[jh])
  have e:(jh s p.2).set 4 (.int .i64 (iC (jB s k b)))=jh (jB s k b) p.2:=by simp[jh,jB]
  rwa [e] at h1
 ·have h2:=(h.2.store k (.bool b) (by rw[mZ];exact hk)).far (c:=p.1) hne 4 (.int .i64 (iC (jB s k b)))
  rw[←Cq] at h2
  exact h2
theorem uN {α:Type} {l:List α} {i:Nat} {x:α} (hi:i≤l.length) (j:Nat):(l.take i++x::l.drop i)[j]?=if j<i then l[j]? else if j=i then some x else l[j-1]?:=by
 have hl:(l.take i).length=i:=by rw[bL];omega
 split
 ·rename_i h
  rw[bE om,eZ,if_pos h]
 ·split
  ·rename_i h;subst h
   rw[bP om,hl,Nat.sub_self];rfl
  ·rw[bP om,hl]
   obtain⟨d,hd⟩: ∃d,j-i=d+1:=⟨j-i-1,om⟩
   rw[hd,List.getElem?_cons_succ,dh]
   congr 1;omega
theorem Cu (A:SA) (i:Nat) (p:Nat×Nat):lJ (A.take i++p::A.drop i)=(lJ A).take i++ .pointer (some ⟨p.1,0,none⟩)::(lJ A).drop i:=by simp[lJ,List.map_take,List.map_drop]
theorem zu (A:SA) (i:Nat) (p:Nat×Nat):(ay (A.take i++p::A.drop i)).Perm (p.1::p.2::ay A):=by
 have h:(A.take i++p::A.drop i).Perm (p::A):=by
  have:=eO (a:=p) (l₁:=A.take i) (l₂:=A.drop i)
  rwa [bT] at this
 exact h.flatMap_right (fun p=>[p.1,p.2])
theorem sF.ins {C:List Sl} (h:sF X B w pc pz e v A C) {p:Nat×Nat} {s:Sl} {i n:Nat} (hi:i≤C.length) (k:Keep (gY v) w w1) (own:w1.ownsRow B 208 1 v' (C.length+1) (lJ (A.take i++p::A.drop i))) (hw':w'=w1.setCell ⟨pc,2,none⟩ v') (hs:lK w p s)
 (n1:p.1∉cay pc v A) (n2:p.2∉cay pc v A) (n12:p.1≠p.2) (b1:B≤p.1) (b2:B≤p.2) (hv': ∀y∈gY v',y∈gY v∨w.heap.size≤y):
 sF (p.1::p.2::(gY v'++X)) B w' pc pz e v' (A.take i++p::A.drop i) (C.take i++s::C.drop i)∧Keep (pc::gY v) w w'∧∀y∈cay pc v' (A.take i++p::A.drop i),y∈cay pc v A∨y=p.1∨y=p.2∨w.heap.size≤y:=by
 obtain⟨n0,nn⟩:=aR.1 h.nd
 obtain⟨no,na,nx⟩:=aX.1 nn
 have hpv:pc∉gY v:=fun q=>n0 (av _ q)
 have hpa:pc∉ay A:=fun q=>n0 (aj _ q)
 have kk:Keep (pc::gY v) w w':=by rw[hw'];exact(k.mono (fun _ q=>au _ q)).setCell (p:=⟨pc,2,none⟩) (.inl sI) _
 have hpc:=h.c.lt
 have hpv':pc∉gY v':=fun q=>by
  rcases hv' _ q with r|r
  ·exact hpv r
  ·omega
 have key: ∀y∈cay pc v' (A.take i++p::A.drop i),y=pc∨y∈gY v'∨y=p.1∨y=p.2∨y∈ay A:=fun y hy=>by
  rcases aB.1 hy with q|q
  ·exact .inl q
  ·rcases aC.1 q with r|r
   ·exact .inr (.inl r)
   ·have:=(zu A i p).mem_iff.1 r
    simp at this
    rcases this with t|t|t
    ·exact .inr (.inr (.inl t))
    ·exact .inr (.inr (.inr (.inl t)))
    ·exact .inr (.inr (.inr (.inr t)))
 have hal: ∀y∈ay A,B≤y∧y<w.heap.size:=fun y hy=>h.lim y (au _ (aj _ hy))
 have hvl: ∀y∈gY v',B≤y∧y<w'.heap.size:=fun y hy=>by
  have:=iA own hy
  refine⟨this.1,?_⟩
  rw[hw'];simpa using this.2
 have e1:(C.take i++s::C.drop i).length=C.length+1:=by simp;omega
 refine⟨⟨?_,?_,?_,fun j r z hr hz=> ?_,fun y hy=> ?_,?_,fun y hy=> ?_⟩,kk,fun y hy=> ?_⟩
 ·rw[hw']
  have:=(h.c.keep k hpv).store 2 v' sI
  exact this
 ·rw[e1,hw']
  exact gZ own ((Keep.refl [pc] _).setCell (p:=⟨pc,2,none⟩) (.inl sI) _) (fun x hx q=>by simp at hx;subst hx;exact hpv' q)
 ·have:=h.len
  simp;omega
 ·rw[uN (by rw[h.len];exact hi)] at hr
  rw[uN hi] at hz
  have old: ∀j r z,A[j]?=some r→C[j]?=some z→lK w' r z:=fun j r z hr hz=>by
   have hm:=aD hr
   have a1:r.1∈ay A:=jR.2 ⟨r,hm,.inl rfl⟩
   have a2:r.2∈ay A:=jR.2 ⟨r,hm,.inr rfl⟩
   refine(h.sl j r z hr hz).keep kk (fun q=> ?_) (fun q=> ?_)
   ·rcases aB.1 q with t|t
    ·exact hpa (t▸a1)
    ·exact nx _ t _ a1 rfl
   ·rcases aB.1 q with t|t
    ·exact hpa (t▸a2)
    ·exact nx _ t _ a2 rfl
  split at hr
  ·rename_i q
   rw[if_pos q] at hz
   exact old j r z hr hz
  ·rename_i q
   rw[if_neg q] at hz
   split at hr
   ·rename_i t
    rw[if_pos t] at hz
    obtain rfl:=aH hr
    obtain rfl:=aH hz
    refine hs.keep kk (fun q=> ?_) (fun q=> ?_)
    ·rcases aB.1 q with t|t
     ·exact n1 (t▸aG ..)
     ·exact n1 (au _ (av _ t))
    ·rcases aB.1 q with t|t
     ·exact n2 (t▸aG ..)
     ·exact n2 (au _ (av _ t))
   ·rename_i t
    rw[if_neg t] at hz
    exact old _ r z hr hz
 ·rcases key y hy with q|q|q|q|q
  ·have:=h.mem pc (aG ..)
   subst q;simp[this]
  ·simp[q]
  ·simp[q]
  ·simp[q]
  ·have:=h.mem y (au _ (aj _ q))
   simp[this]
 ·refine aR.2 ⟨fun q=> ?_,aX.2 ⟨?_,(zu A i p).nodup_iff.2 ?_,fun a ha b hb hab=> ?_⟩⟩
  ·rcases aC.1 q with r|r
   ·exact hpv' r
   ·have:=(zu A i p).mem_iff.1 r
    simp at this
    rcases this with t|t|t
    ·exact n1 (t▸aG ..)
    ·exact n2 (t▸aG ..)
    ·exact hpa t
  ·unfold gY;cases v'.ownBlock<;>simp
  ·refine aR.2 ⟨fun q=> ?_,aR.2 ⟨fun q=> ?_,na⟩⟩
   ·rcases aB.1 q with t|t
    ·exact n12 t
    ·exact n1 (au _ (aj _ t))
   ·exact n2 (au _ (aj _ q))
  ·subst hab
   have hb':=(zu A i p).mem_iff.1 hb
   have hsl:p.1<w.heap.size∧p.2<w.heap.size:=⟨hs.1.lt,hs.2.lt⟩
   rcases hv' a ha with r|r
   ·simp at hb'
    rcases hb' with t|t|t
    ·exact n1 (t▸au _ (av _ r))
    ·exact n2 (t▸au _ (av _ r))
    ·exact nx _ r _ t rfl
   ·simp at hb'
    rcases hb' with t|t|t
    ·omega
    ·omega
    ·have:=hal _ t;omega
 ·have hz:w.heap.size≤w'.heap.size:=kk.size
  rcases key y hy with q|q|q|q|q
  ·have:=h.lim pc (aG ..)
   subst q;exact⟨this.1,om⟩
  ·exact hvl y q
  ·subst q;have:=hs.1.lt;exact⟨b1,om⟩
  ·subst q;have:=hs.2.lt;exact⟨b2,om⟩
  ·have:=hal y q;exact⟨this.1,om⟩
 ·rcases key y hy with q|q|q|q|q
  ·exact .inl (by subst q;exact aG ..)
  ·rcases hv' y q with r|r
   ·exact .inl (au _ (av _ r))
   ·exact .inr (.inr (.inr r))
  ·exact .inr (.inl q)
  ·exact .inr (.inr (.inl q))
  ·exact .inl (au _ (aj _ q))
end
end
section
open Go.RowKit Go.Maps
def wideC (P:List Int) (N:List (List Int)):Bool:=decide (20<P.length)||decide (20<N.length)||N.any fun l=>decide (20<l.length)
def wideN (P:List Int) (N:List (List Int)):Int:=if wideC P N=true then 1 else 0
theorem zD {n:Int} (h1:1≤n) (h2:n≤256):mV [n] [[0]] 0 0 0=0:=by
 have e1:p8 n=false:=by unfold p8;simp;omega
 unfold mV qY kE sqC xG qO vQ yX mU
 simp[e1,jP,jI]
theorem ordOne {D:List Int} (h:D.length=1∧∀x:Int,x∈D↔0≤x∧x<1):D=[0]:=by
 match D,h with
 |[x],h=>
  have:=(h.2 x).1 sI
  have e:x=0:=om
  rw[e]
theorem ordZ_one {O:List (List Int)} (h:nM O 1):O=[[0]]:=by
 match O,h with
 |[D],h=>
  have:=h.2 D sI
  have e:D=[0]:=ordOne (by simpa using this)
  rw[e]
def OneZ (n:Int) (w:World) (e:Ending) (w':World):Prop:=
 ∃(pz:Nat) (x:Nd),e= .returned (.tuple #[.pointer (some ⟨pz,0,none⟩),.nilIface])∧je w.heap.size w' pz 0 0 0 [[0]] [x]∧w.heap.size≤pz∧x.n=n∧x.F=mq 0 n∧x.T=[]∧Below w.heap.size w w'
theorem mg.z {B:Nat} {ev:Nat→Addr} {w:World} (h:mg B ev w):qQ B ev w:=⟨h.d,h.glob 7 (by decide) (by decide),h.cell 7 (by decide) (by decide)⟩
end
section
open Go.RowKit
end
end Go.Proofs.YtdcbhlcbiokbeaaGreatDoor
