/- Lemmas and contracts for the claim's last text: ZTake, ZNew. -/
import Derived.Test.YtdcbhlcbiokbeaaGreatDoorSa01
import Derived.Test.YtdcbhlcbiokbeaaGreatDoorSa03
import Derived.Test.YtdcbhlcbiokbeaaGreatDoorSa05
import Derived.Test.YtdcbhlcbiokbeaaGreatDoorSa07
import Derived.Test.YtdcbhlcbiokbeaaGreatDoorSa08
set_option linter.unusedSimpArgs false
set_option linter.unusedVariables false
set_option maxHeartbeats 16000000
set_option maxRecDepth 100000
namespace Go.Proofs.YtdcbhlcbiokbeaaGreatDoor
section
open Go.RowKit Go.Maps
attribute [local go_sem ↓] bA bB
def plV (p:Pl):Value:=.agg #[.int .i64 p.1,.int .i64 p.2.1,.int .i64 p.2.2]
structure nI (B:Nat) (ev:Nat→Addr) (w:World):Prop where
 d:za B ev w
 l7:3<B
 c7:w.cell? ⟨3,0,none⟩=some (iP ev 7)
theorem nI.below {B:Nat} {ev:Nat→Addr} {w w':World} (h:nI B ev w) (hb:Below B w w'):nI B ev w':=
 ⟨h.d.below hb,h.l7,(hb.cell (p:=⟨3,0,none⟩) h.l7).trans h.c7⟩
theorem nI.size {B:Nat} {ev:Nat→Addr} {w:World} (h:nI B ev w):B≤w.heap.size:=h.d.size
theorem nI.go {B:Nat} {ev:Nat→Addr} {w w':World} (h:nI B ev w) (hb:Below w.heap.size w w'):nI B ev w':=h.below (hb.mono h.size)
theorem nI.c {B:Nat} {ev:Nat→Addr} {w:World} (h:nI B ev w):jV B ev w:=h.d.c
theorem AO {B:Nat} {ev:Nat→Addr} (pz:Nat) (mn lw hi:Int) (O:List (List Int)) (L:List Nd) (v k:Int) (u:Bool) (w:World) (hE:nI B ev w) (h:iH B w pz mn lw hi O L) (hL:0<L.length) (hv:v<0∨(L.length:Int)≤v):
 Calls Tryz.prog 27 #[.pointer (some ⟨pz,0,none⟩),.int .i64 v,.int .i64 k,.bool u] w fun e w'=>e= .returned (.tuple #[plV (0,0,0),iP ev 2])∧Below w.heap.size w w':=by
 have hB:=hE.size
 have hb0:Below w.heap.size w ((w.alloc (.cells #[.int .i64 k] 3)).alloc (.cells #[.int .i64 0,.int .i64 0,.int .i64 0] 61)):=gI
 have NO:=ah (qG pz mn lw hi O L v _ (hE.c.below (hb0.mono hB)) (h.below hb0) hL hv)
 have L1:=ah (gH.mk_ (w.alloc (.cells #[.int .i64 k] 3)) [.int .i64 0,.int .i64 0,.int .i64 0] 61 (b:=w.heap.size+1) sI)
 have e1:iP ev 2= .iface 434 (.pointer (some (ev 2))):=rfl
 rw[e1] at NO ⊢
 clear h hv hE e1 hb0
 go_enter Tryz.func27,Tryz.ntmps27
 go_wp2_with fail
 refine NO.out.mono ?_
 rintro e w1 ⟨rfl,hb1⟩
 have M:=L1.out.go hb1
 have m0:=M.c 0 _ rfl;have m1:=M.c 1 _ rfl;have m2:=M.c 2 _ rfl;have f0:=M.f 0 sI;have f1:=M.f 1 sI;have f2:=M.f 2 sI;have ml:=M.lt
 have HM:=ah (M.mJ (.int .i64 0) (.int .i64 0) (.int .i64 0))
 clear M NO L1
 go_wp2
 have x0:=HM.out.c 0 _ rfl;have x1:=HM.out.c 1 _ rfl;have x2:=HM.out.c 2 _ rfl
 exact bodyPost_ret (v:=.tuple #[.agg #[.int .i64 0,.int .i64 0,.int .i64 0],.iface 434 (.pointer (some (ev 2)))]) (by simp[x0,x1,x2,results,fB,go_sem]) rfl ⟨rfl,gI⟩
theorem yu {B:Nat} {ev:Nat→Addr} (pz:Nat) (mn lw hi:Int) (O:List (List Int)) (L:List Nd) (v:Nat) (k:Int) (u:Bool) (w:World) (hE:nI B ev w) (h:iH B w pz mn lw hi O L) (hv:v<L.length) (hk:k<0∨6<k):
 Calls Tryz.prog 27 #[.pointer (some ⟨pz,0,none⟩),.int .i64 v,.int .i64 k,.bool u] w fun e w'=>e= .returned (.tuple #[plV (0,0,0),iP ev 2])∧Below w.heap.size w w':=by
 have hB:=hE.size
 have hb0:Below w.heap.size w ((w.alloc (.cells #[.int .i64 k] 3)).alloc (.cells #[.int .i64 0,.int .i64 0,.int .i64 0] 61)):=gI
 have NO:=ah (rZ pz mn lw hi O L v _ (h.below hb0) hv)
 have L0:=ah ((gH.mk_ w [.int .i64 k] 3 rfl).past (.cells #[.int .i64 0,.int .i64 0,.int .i64 0] 61))
 have L1:=ah (gH.mk_ (w.alloc (.cells #[.int .i64 k] 3)) [.int .i64 0,.int .i64 0,.int .i64 0] 61 (b:=w.heap.size+1) sI)
 have e1:iP ev 2= .iface 434 (.pointer (some (ev 2))):=rfl
 have SZ:Hid (∀W,Below w.heap.size w W→Calls Tryz.prog 121 #[.int .i64 k] W fun e w'=>e= .returned (.tuple #[.int .i64 0,iP ev 2])∧Below W.heap.size W w'):=fun W hb=>size_no k W (hE.c.below (hb.mono hB)) hk
 rw[e1] at SZ ⊢
 clear h hv hE e1 hb0
 go_enter Tryz.func27,Tryz.ntmps27
 go_wp2_with fail
 refine NO.out.mono ?_
 rintro e w1 ⟨rfl,hb1⟩
 have P:=L0.out.go hb1
 have p0:=P.c 0 _ rfl;have pl:=P.lt
 have M:=ah (L1.out.go hb1)
 clear P NO L0 L1
 go_wp2_with fail
 refine(SZ.out _ gI).mono ?_
 rintro e w2 ⟨rfl,hb2⟩
 have M2:=M.out.go hb2
 have m0:=M2.c 0 _ rfl;have m1:=M2.c 1 _ rfl;have m2:=M2.c 2 _ rfl;have f0:=M2.f 0 sI;have f1:=M2.f 1 sI;have f2:=M2.f 2 sI;have ml:=M2.lt
 have HM:=ah (M2.mJ (.int .i64 0) (.int .i64 0) (.int .i64 0))
 clear M2 SZ M p0
 have z1:=hb1.size;simp at z1
 go_wp2
 have x0:=HM.out.c 0 _ rfl;have x1:=HM.out.c 1 _ rfl;have x2:=HM.out.c 2 _ rfl
 exact bodyPost_ret (v:=.tuple #[.agg #[.int .i64 0,.int .i64 0,.int .i64 0],.iface 434 (.pointer (some (ev 2)))]) (by simp[x0,x1,x2,results,fB,go_sem]) rfl ⟨rfl,gI⟩
theorem iH.row {B:Nat} {w:World} {pz:Nat} {mn lw hi:Int} {O:List (List Int)} {L:List Nd} (h:iH B w pz mn lw hi O L) {v:Nat} {D:List Int} (hD:O[v]?=some D) (hD0:0<D.length):
 ∃g off kn gO oO ko gD oD kD,gH w pz [.slice none 0 0,.slice none 0 0,.int .i64 mn,.int .i64 lw,.int .i64 hi,.slice (some ⟨g,off,none⟩) L.length kn,.slice (some ⟨gO,oO,none⟩) L.length ko]∧(g∉ys L∧g<w.heap.size)∧(gO∉ys L∧gO<w.heap.size)∧(gD∉ys L∧gD<w.heap.size)∧(L.length≤kn∧kn≤maxLen)∧(L.length≤ko∧ko≤maxLen)∧(D.length≤kD∧kD≤maxLen)∧
  (∀j y,L[j]?=some y→w.cell? ⟨g,off+j,none⟩=some (.pointer (some ⟨y.pb,0,none⟩)))∧w.cell? ⟨gO,oO+v,none⟩=some (.slice (some ⟨gD,oD,none⟩) D.length kD)∧∀t z,D[t]?=some z→w.cell? ⟨gD,oD+t,none⟩=some (.int .i64 z):=by
 have hl:v<L.length:=by rw[←h.ord.1];exact(ak.1 hD).1
 obtain⟨g,off,kn,qo,ko,hz,hg,hgl,hk1,hk2,hc,hr⟩:=h.open om
 obtain⟨p,cap,e,hc1,hc2,hn⟩:=hr.form
 rw[h.ord.1] at e hc1
 injection e with e1 e2 e3
 subst e1 e3
 obtain⟨gO,oO,u,rfl,hgO,hgOl,hcu,hu⟩:=hn v D hD
 obtain⟨pD,kD,rfl,hkD,hmD,hcD⟩:=hu.int
 obtain⟨x,hx⟩: ∃x,D[0]?=some x:=⟨D[0],au hD0⟩
 obtain⟨gD,oD,rfl,hgD,hgDl,_⟩:=hcD 0 x hx
 refine⟨g,off,kn,gO,oO,ko,gD,oD,kD,hz,⟨hg,hgl⟩,⟨hgO,hgOl⟩,⟨hgD,hgDl⟩,⟨hk1,hk2⟩,⟨hc1,hc2⟩,⟨hkD,hmD⟩,hc,hcu,fun t z ht=> ?_⟩
 obtain⟨g',o',e,_,_,q⟩:=hcD t z ht
 injection e with e;injection e with ea eb
 subst ea eb
 exact q
theorem lC {α:Type} {D:List α} {t:Nat} {z:α} {P:α→Prop} (h: ∀y∈D.take t,P y) (hz:D[t]?=some z) (hp:P z): ∀y∈D.take (t+1),P y:=by
 rw[bF,hz]
 intro y hy
 simp at hy
 rcases hy with hy|rfl
 ·exact h y hy
 ·exact hp
def vk (B:Nat) (ev:Nat→Addr) (pz:Nat) (mn lw hi:Int) (O:List (List Int)) (L:List Nd) (w:World) (r:List Nd×Nat×Pl) (e:Ending) (w':World):Prop:=
 e= .returned (.tuple #[plV r.2.2,iP ev r.2.1])∧iH B w' pz mn lw hi O r.1∧Keep (ys L) w w'
theorem zhit {B:Nat} {ev:Nat→Addr} {pz:Nat} {mn lw hi:Int} {O:List (List Int)} {L:List Nd} {r:List Nd×Nat×Pl} {w w3 w4:World} {k:Int} {zn:Nat} {x:Nd} {b:Int×Int} (hr:r=(L.set (zn:Int).toNat (kS k b x),0,((zn:Int),b.1,k)))
 (h:iH B w pz mn lw hi O L) (hx:L[zn]?=some x) (hI:Inv x.n (kQ k b x.F) (ji b.1 k x.T)) (hb:Bud w3 x.pb x.n x.bf x.bt (kQ k b x.F) (ji b.1 k x.T)) (h3:Keep [x.bf,x.bt] w w3) (h4:Keep [x.bf,x.bt] w w4) {c1 c2:Nat} (h34:Keep [c1,c2] w3 w4) (hc1:w.heap.size≤c1) (hc2:w.heap.size≤c2):
 vk B ev pz mn lw hi O L w r (.returned (.tuple #[plV ((zn:Int),b.1,k),.nilIface])) w4:=by
 have hxm:=aA hx
 have b0:=h.b.bud x hxm
 have e1:=b0.1.ltp;have e2:=b0.1.ltf;have e3:=b0.1.ltt
 have hb4:Bud w4 x.pb x.n x.bf x.bt (kQ k b x.F) (ji b.1 k x.T):=hb.keep h34 (by simp;omega) (by simp;omega) (by simp;omega)
 obtain⟨q1,q2⟩:=iH.keep (S:=[]) h hx hb4 hI h4
 subst hr
 exact⟨rfl,by rw[bC];exact q1,q2⟩
theorem AP {B:Nat} {ev:Nat→Addr} (pz:Nat) (mn lw hi:Int) (O:List (List Int)) (L:List Nd) (v:Nat) (k:Int) (u:Bool) (w:World) (hE:nI B ev w) (h:iH B w pz mn lw hi O L) (hv:v<L.length) (k0:0≤k) (k6:k≤6):
 Calls Tryz.prog 27 #[.pointer (some ⟨pz,0,none⟩),.int .i64 v,.int .i64 k,.bool u] w (vk B ev pz mn lw hi O L w (gY mn O L v k u)):=by
 have hB:=hE.size
 obtain⟨D,hD,hDl,hDm⟩:=h.ord.get hv
 have hn0:0<D.length:=om
 have hnn: ¬((v:Int)<0∨(L.length:Int)≤(v:Int)∨k<0∨6<k):=om
 have TNO:Hid (og mn k u L D=none→gY mn O L v k u=(L,uW k L,(0,0,0))):=fun hp=>uX hnn (by simpa using hD) hp
 have TYES:Hid (∀(j:Int) (x:Nd) (b:Int×Int),og mn k u L D=some j→L[j.toNat]?=some x→iG k x.F=some b→gY mn O L v k u=(L.set j.toNat (kS k b x),0,(j,b.1,k))):=fun j x b hp hx hb=>rU hnn (by simpa using hD) hp hx hb
 have hb0:Below w.heap.size w ((w.alloc (.cells #[.int .i64 k] 3)).alloc (.cells #[.int .i64 0,.int .i64 0,.int .i64 0] 61)):=gI
 have NO:=ah (rZ pz mn lw hi O L v _ (h.below hb0) hv)
 have L0:=ah ((gH.mk_ w [.int .i64 k] 3 rfl).past (.cells #[.int .i64 0,.int .i64 0,.int .i64 0] 61))
 have L1:=ah (gH.mk_ (w.alloc (.cells #[.int .i64 k] 3)) [.int .i64 0,.int .i64 0,.int .i64 0] 61 (b:=w.heap.size+1) sI)
 have HH:=ah h;have HD:=ah hD;have HDM:=ah hDm;have HDL:=ah hDl;have HB0:=ah hb0
 have hs:=lI k0 k6
 obtain⟨n,hn⟩: ∃n,n=L.length:=⟨_,rfl⟩
 clear h hb0 hD hDm hDl hnn
 go_enter Tryz.func27,Tryz.ntmps27
 go_wp2_with fail
 refine NO.out.mono ?_
 rintro e w1 ⟨rfl,hb1⟩
 have K1:Below w.heap.size w w1:=HB0.out.trans (hb1.mono (by simp;omega))
 have h1:=HH.out.below K1
 obtain⟨g,off,kn,gO,oO,ko,gD,oD,kD,hz,⟨gy,gl⟩,⟨gOy,gOl⟩,⟨gDy,gDl⟩,⟨ka,kb⟩,⟨kc,kd⟩,⟨ke,kf⟩,hc,hcu,hcD⟩:=h1.row HD.out hn0
 have c5:=hz.c 5 _ rfl;have c6:=hz.c 6 _ rfl;have cl:=hz.lt
 have P:=L0.out.go hb1
 have p0:=P.c 0 _ rfl;have pl:=P.lt
 have HP:=ah P;have HM:=ah (L1.out.go hb1);have HZ:=ah hz;have HC:=ah hc;have HCD:=ah hcD
 have ml:=HM.out.lt
 have H1:=ah h1
 unfold maxLen at kb kd kf
 clear P NO L0 L1 hz hc hcD h1 HB0
 go_wp2_with (go_at_call 121;refine(uN _ _ ⟨k0,k6⟩).mono ?_;rintro e w' ⟨rfl,rfl⟩)
 go_loopw [43] (fun iv wr=>∃t:Nat,t≤D.length∧iv= .int .i64 t∧Hid (∀z∈D.take t,sU mn k u L z=false)∧Below w1.heap.size w1 wr) (fun iv _=>D.length-(intOf iv).toNat)
 case atStart=>exact⟨0,aQ _,by go_num,(show∀z∈D.take 0,sU mn k u L z=false from sI),aK _ _⟩
 case round=>
  obtain⟨t,ht,rfl,NOK,hbel⟩:=hrel
  have zr:=hbel.size
  have KR:Below w.heap.size w wr:=K1.trans (hbel.mono (by have:=K1.size;omega))
  by_cases hlt:t<D.length
  ·obtain⟨z,hz⟩: ∃z,D[t]?=some z:=⟨D[t],au hlt⟩
   have hzm:=(HDM.out z).1 (aA hz)
   obtain⟨zn,rfl⟩: ∃zn:Nat,z=zn:=⟨z.toNat,om⟩
   obtain⟨x,hx⟩: ∃x,L[zn]?=some x:=⟨L[zn]' om,au _⟩
   have r0:=(hbel.cell (p:=⟨gD,oD+t,none⟩) gDl).trans (HCD.out t _ hz)
   have q0:=(HP.out.go hbel).c 0 _ rfl
   have ql:=(HP.out.go hbel).lt
   have sW:=HH.out.below KR
   have MAY:=ah (may_any pz mn lw hi O L zn x k u wr sW hx k0 k6)
   have HX:=ah hx;have HZT:=ah hz
   have gr:gD<wr.heap.size:=om
   cases hmay:mayN mn k u x with
   |false=>
    rw[hmay] at MAY
    have hno:sU mn k u L (zn:Int)=false:=by unfold sU;rw[bC,hx];simp[okN,hmay]
    have NOK2:=ah (lC NOK.out hz hno)
    clear hz hx sW hno hmay
    go_wp2_with fail
    refine MAY.out.mono ?_
    rintro e w2 ⟨rfl,hb2⟩
    go_wp2
    go_roundw
    case rel=>exact⟨t+1,om,by go_num,NOK2,hbel.trans (hb2.mono zr)⟩
    case measure=>simp[intOf];omega
   |true=>
    rw[hmay] at MAY
    have hI:=(sW.b.bud x (aA hx)).2
    have hxm:=aA hx
    have hbfl:=sW.b.lim x.bf (kL.2 ⟨x,hxm,.inl rfl⟩)
    have hbtl:=sW.b.lim x.bt (kL.2 ⟨x,hxm,.inr rfl⟩)
    have hbf0:=HH.out.b.lim x.bf (kL.2 ⟨x,hxm,.inl rfl⟩)
    have hbt0:=HH.out.b.lim x.bt (kL.2 ⟨x,hxm,.inr rfl⟩)
    have cz:Hid (∀W,Keep [x.bf,x.bt] wr W→W.cell? ⟨pz,5,none⟩=some (.slice (some ⟨g,off,none⟩) L.length kn)):=fun W q=>(((HZ.out.go hbel).keep q (by have:=H1.out.out;intro e;apply this;simp at e;exact kL.2 ⟨x,hxm,e⟩)).c 5 _ rfl)
    have cr:Hid (∀W,Keep [x.bf,x.bt] wr W→W.cell? ⟨g,off+zn,none⟩=some (.pointer (some ⟨x.pb,0,none⟩))):=fun W q=>(q.cell om (by intro e;apply gy;simp at e;exact kL.2 ⟨x,hxm,e⟩)).trans ((hbel.cell (p:=⟨g,off+zn,none⟩) gl).trans (HC.out zn x hx))
    have cp:Hid (∀W,Keep [x.bf,x.bt] wr W→W.cell? ⟨w.heap.size,0,none⟩=some (.int .i64 k)):=fun W q=>((HP.out.go hbel).keep q (by simp;omega)).c 0 _ rfl
    have c8:Hid (∀W,Keep [x.bf,x.bt] wr W→gH W (w.heap.size+1) [.int .i64 0,.int .i64 0,.int .i64 0]):=fun W q=>(HM.out.go hbel).keep q (by simp;omega)
    have su:=(sW.b.bud x hxm).1
    have HBUD:=ah su
    have z5:wr.heap.size≤wr.heap.size:=aH _
    have HER:Hid (nI B ev wr):=hE.go KR
    have HI:=ah hI
    clear sW hI su
    cases hbb:iG k x.F with
    |none=>
     have TF:Hid (∀W,Keep [] wr W→Calls Tryz.prog 123 #[.pointer (some ⟨x.pb,0,none⟩),.int .i64 k] W fun e w'=>e= .returned (.tuple #[.agg #[.int .i64 0,.int .i64 0],.iface 434 (.pointer (some (ev 5)))])∧Below W.heap.size W w'):=fun W q=>Cr x.pb x.n x.bf x.bt x.F x.T k W (HER.out.go q.nX).d (HBUD.out.keep q sI sI sI) k0 k6 hbb
     have hno:sU mn k u L (zn:Int)=false:=by unfold sU;rw[bC,hx];simp[okN,hmay,hbb]
     have NOK2:=ah (lC NOK.out hz hno)
     clear hz hx hno hbb hmay HBUD HER
     go_wp2_with fail
     refine MAY.out.mono ?_
     rintro e w2 ⟨rfl,hb2⟩
     have k2:Keep [] wr w2:=Keep.of hb2
     have a1:=cz.out w2 k2.wide;have a2:=cr.out w2 k2.wide;have a3:=cp.out w2 k2.wide
     have HK2:=ah k2
     have z2:=hb2.size
     have ne1: ¬(w2.heap.size=pz):=om
     have ne2: ¬(w2.heap.size=g):=om
     have ne3: ¬(w2.heap.size=w.heap.size):=om
     have ne1': ¬(pz=w2.heap.size):=om
     have ne2': ¬(g=w2.heap.size):=om
     have ne3': ¬(w.heap.size=w2.heap.size):=om
     clear MAY k2 r0 q0
     go_wp2_with fail
     go_region_held3 (fun w'=>w'.cell? ⟨pz,5,none⟩=some (.slice (some ⟨g,off,none⟩) L.length kn)∧w'.cell? ⟨g,off+zn,none⟩=some (.pointer (some ⟨x.pb,0,none⟩))∧w'.cell? ⟨w.heap.size,0,none⟩=some (.int .i64 k)) (go_keep) (first
      |(go_at_call 123;refine(TF.out _ ?_).mono ?_;(repeat(first|exact HK2.out|refine Keep.alloc ?_ _|refine Keep.drew ?_|refine Keep.drewN ?_ _|refine Keep.setCell ?_ (.inr (by first|omega|(simp;omega)|(simp;done))) _));rintro e w3 ⟨rfl,hb3⟩;have k3':Keep [] wr w3:=(by refine Keep.stepW ?_ hb3;(repeat(first|exact HK2.out|refine Keep.alloc ?_ _|refine Keep.drew ?_|refine Keep.drewN ?_ _|refine Keep.setCell ?_ (.inr (by first|omega|(simp;omega)|(simp;done))) _)));have k3:Keep [x.bf,x.bt] wr w3:=k3'.wide;have z3:=k3'.size;have b1:=cz.out w3 k3;have b2:=cr.out w3 k3;have b3:=cp.out w3 k3;(first|(have PN:=((gH.mk_ w2 [.int .i64 0,.int .i64 0] 59 rfl).jy).go hb3;have n0:=PN.c 0 _ rfl;have n1:=PN.c 1 _ rfl;have nf0:=PN.f 0 sI;have nf1:=PN.f 1 sI;have nl:=PN.lt;clear PN)|skip)))
     all_goals
      go_wp2
      go_roundw
      case rel=>exact⟨t+1,om,by go_num,NOK2,hbel.trans ((Keep.nX (by repeat(first|exact k3'|refine Keep.alloc ?_ _|refine Keep.drew ?_|refine Keep.drewN ?_ _|refine Keep.setCell ?_ (.inr (by first|omega|(simp;omega)|(simp;done))) _))).mono zr)⟩
      case measure=>simp[intOf];omega
    |some b=>
     have hpick:og mn k u L D=some (zn:Int):=xZ NOK.out hz (by unfold sU;rw[bC,hx];simp[okN,hmay,hbb])
     have TT:=ah (TYES.out (zn:Int) x b hpick (by rw[bC];exact hx) hbb)
     have TK:Hid (∀W,Keep [] wr W→Calls Tryz.prog 123 #[.pointer (some ⟨x.pb,0,none⟩),.int .i64 k] W fun e w'=>e= .returned (.tuple #[.agg #[.int .i64 b.1,.int .i64 k],.nilIface])∧Bud w' x.pb x.n x.bf x.bt (kQ k b x.F) (ji b.1 k x.T)∧Keep [x.bf,x.bt] W w'):=fun W q=>take_ok x.pb x.n x.bf x.bt x.F x.T k b W (HER.out.go q.nX).c hbfl.1 (HBUD.out.keep q sI sI sI) HI.out k0 k6 hbb
     have HBB:=ah hbb
     have HIT:=ah (HI.out.take k0 hbb)
     obtain⟨b1,b2⟩:=b
     simp only at TK TT
     clear hz hx hbb hmay HER hpick
     go_wp2_with fail
     refine MAY.out.mono ?_
     rintro e w2 ⟨rfl,hb2⟩
     have k2:Keep [] wr w2:=Keep.of hb2
     have a1:=cz.out w2 k2.wide;have a2:=cr.out w2 k2.wide;have a3:=cp.out w2 k2.wide
     have HK2:=ah k2
     have z2:=hb2.size
     have ne1: ¬(w2.heap.size=pz):=om
     have ne2: ¬(w2.heap.size=g):=om
     have ne3: ¬(w2.heap.size=w.heap.size):=om
     have ne4: ¬(w2.heap.size=w.heap.size+1):=om
     have ne1': ¬(pz=w2.heap.size):=om
     have ne2': ¬(g=w2.heap.size):=om
     have ne3': ¬(w.heap.size=w2.heap.size):=om
     have ne4': ¬(w.heap.size+1=w2.heap.size):=om
     have NB:Hid (w2.heap.size∉[x.bf,x.bt]):=by show _∉_;simp;omega
     clear MAY k2 r0 q0
     go_wp2_with fail
     go_region_held3 (fun w'=>w'.cell? ⟨pz,5,none⟩=some (.slice (some ⟨g,off,none⟩) L.length kn)∧w'.cell? ⟨g,off+zn,none⟩=some (.pointer (some ⟨x.pb,0,none⟩))∧w'.cell? ⟨w.heap.size,0,none⟩=some (.int .i64 k)) (go_keep) (first
      |(go_at_call 123;refine(TK.out _ ?_).mono ?_;(repeat(first|exact HK2.out|refine Keep.alloc ?_ _|refine Keep.drew ?_|refine Keep.drewN ?_ _|refine Keep.setCell ?_ (.inr (by first|omega|(simp;omega)|(simp;done))) _));rintro e w3 ⟨rfl,hbd3,hk3⟩;have k3:Keep [x.bf,x.bt] wr w3:=(by refine Keep.thenW ?_ hk3;(repeat(first|exact HK2.out|refine Keep.alloc ?_ _|refine Keep.drew ?_|refine Keep.drewN ?_ _|refine Keep.setCell ?_ (.inr (by first|omega|(simp;omega)|(simp;done))) _)));have BD3:=ah hbd3;have y1:=cz.out w3 k3;have y2:=cr.out w3 k3;have y3:=cp.out w3 k3;(first|(have PN:=((gH.mk_ w2 [.int .i64 0,.int .i64 0] 59 rfl).jy).keep hk3 NB.out;have n0:=PN.c 0 _ rfl;have n1:=PN.c 1 _ rfl;have nf0:=PN.f 0 sI;have nf1:=PN.f 1 sI;have nl:=PN.lt;clear PN)|skip);have M8:=c8.out w3 k3;have m0:=M8.c 0 _ rfl;have m1:=M8.c 1 _ rfl;have m2:=M8.c 2 _ rfl;have f0:=M8.f 0 sI;have f1:=M8.f 1 sI;have f2:=M8.f 2 sI;have ml8:=M8.lt;have HM8:=ah M8;clear M8 hbd3))
     ·have k03:Keep [x.bf,x.bt] w w3:=(Keep.of KR).then k3
      have z03:=k03.size
      go_wp2
      have LF:=(HM8.out.mJ (.int .i64 zn) (.int .i64 b1) (.int .i64 k)).past (.cells #[.int .i64 b1,.int .i64 k] 59)
      have e0:=LF.c 0 _ rfl;have e1:=LF.c 1 _ rfl;have e2:=LF.c 2 _ rfl
      refine bodyPost_ret (v:=.tuple #[plV (zn,b1,k),.nilIface]) (by simp[e0,e1,e2,results,fB,go_sem,plV]) rfl ?_
      refine zhit (c1:=w.heap.size+1) (c2:=w2.heap.size) (TT.out) HH.out HX.out HIT.out BD3.out k03 (by repeat(first|exact k03|refine Keep.alloc ?_ _|refine Keep.drew ?_|refine Keep.drewN ?_ _|refine Keep.setCell ?_ (.inr (by first|omega|(simp;omega)|(simp;done))) _)) ?_ om om
      refine Keep.trans (S':=[w.heap.size+1,w2.heap.size]) (Keep.refl _ _) ?_ (fun s hs=>.inl hs)
      repeat(first|exact Keep.refl _ _|refine Keep.alloc ?_ _|refine Keep.setCell ?_ (.inl sI) _)
     ·have k03:Keep [x.bf,x.bt] w w3:=(Keep.of KR).then k3
      have z03:=k03.size
      go_wp2
      have LF:=((HM8.out.far ne4 0 (.int .i64 b1)).far ne4 1 (.int .i64 k)).mJ (.int .i64 zn) (.int .i64 b1) (.int .i64 k)
      have e0:=LF.c 0 _ rfl;have e1:=LF.c 1 _ rfl;have e2:=LF.c 2 _ rfl
      refine bodyPost_ret (v:=.tuple #[plV (zn,b1,k),.nilIface]) (by simp[e0,e1,e2,results,fB,go_sem,plV]) rfl ?_
      refine zhit (c1:=w.heap.size+1) (c2:=w2.heap.size) (TT.out) HH.out HX.out HIT.out BD3.out k03 (by repeat(first|exact k03|refine Keep.alloc ?_ _|refine Keep.drew ?_|refine Keep.drewN ?_ _|refine Keep.setCell ?_ (.inr (by first|omega|(simp;omega)|(simp;done))) _)) ?_ om om
      refine Keep.trans (S':=[w.heap.size+1,w2.heap.size]) (Keep.refl _ _) ?_ (fun s hs=>.inl hs)
      repeat(first|exact Keep.refl _ _|refine Keep.alloc ?_ _|refine Keep.setCell ?_ (.inl sI) _)
  ·have et:t=D.length:=by omega
   subst et
   have hp:og mn k u L D=none:=D8 (fun z hz=>NOK.out z (by rw[bg];exact hz))
   have TT:=ah (TNO.out hp)
   clear hp NOK
   obtain⟨wo,rfl⟩: ∃wo:World,wo=wr:=⟨_,rfl⟩
   have q5:=(HZ.out.go hbel).c 5 _ rfl
   have hmf: ∀(fn:Fn) (first cap:Array Value) (w:World),(Instr.makeFunc fn first cap).run Tryz.prog w= .ok (.func fn first cap) w:=fun _ _ _ _=>rfl
   have pzl:pz<wo.heap.size:=om
   go_wp2_with fail
   go_loopw [75] (fun iv wr=>∃t:Nat,t≤L.length∧iv= .int .i64 t∧Hid (∀y∈L.take t,oh k y=false)∧Below wo.heap.size wo wr) (fun iv _=>L.length-(intOf iv).toNat)
   case atStart=>exact⟨0,aQ _,by go_num,(show∀z∈L.take 0,oh k z=false from sI),aK _ _⟩
   case round=>
    obtain⟨t,ht,rfl,NOS,hbl2⟩:=hrel
    have zr2:=hbl2.size
    have KR2:Below w.heap.size w wr:=KR.trans (hbl2.mono KR.size)
    have M8:=ah ((HM.out.go hbel).go hbl2)
    by_cases hlt:t<L.length
    ·obtain⟨y,hy⟩: ∃y,L[t]?=some y:=⟨L[t],au hlt⟩
     have sW:=HH.out.below KR2
     have su:=(sW.b.bud y (aA hy)).1
     have FR:=ah (Ck y.pb y.n y.bf y.bt y.F y.T wr su)
     have r0:=(hbl2.cell (p:=⟨g,off+t,none⟩) (show g<wo.heap.size by omega)).trans ((hbel.cell (p:=⟨g,off+t,none⟩) gl).trans (HC.out t y hy))
     have gr:g<wr.heap.size:=om
     have HY:=ah hy
     have PP:=ah ((HP.out.go hbel).go hbl2)
     clear sW su hy
     go_wp2_with fail
     refine FR.out.mono ?_
     rintro e w3 ⟨vF,rfl,hown⟩
     have hb3:=hown.2
     have z3:=hb3.size
     have hrow:tL 0 w3 vF y.F:=hown.uP.mono (aQ _)
     have CF:=ah (CV vF y.F k w.heap.size w3 hrow ((PP.out.go hb3).c 0 _ rfl) (PP.out.go hb3).lt)
     have es:y.F.any (rQ k)=oh k y:=rfl
     rw[es] at CF
     have M3:=ah (M8.out.go hb3)
     clear FR r0 hrow es hown PP
     cases hs:oh k y with
     |false=>
      rw[hs] at CF
      have NOS2:=ah (lC NOS.out HY.out hs)
      clear hs
      go_wp2_with fail
      refine CF.out.mono ?_
      rintro e w4 ⟨rfl,hb4⟩
      go_wp2
      go_roundw
      case rel=>exact⟨t+1,om,by go_num,NOS2,hbl2.trans ((hb3.mono zr2).trans (hb4.mono om))⟩
      case measure=>simp[intOf];omega
     |true=>
      rw[hs] at CF
      have hlow:uW k L=7:=by unfold uW;rw[if_pos (dM.2 ⟨y,aA HY.out,hs⟩)]
      clear hs
      go_wp2_with fail
      refine CF.out.mono ?_
      rintro e w4 ⟨rfl,hb4⟩
      have z4:=hb4.size
      have K4:Below w.heap.size w w4:=KR2.trans ((hb3.mono KR2.size).trans (hb4.mono (by have:=KR2.size;omega)))
      have E4:=hE.go K4
      have c7:=E4.c7
      have l7:=hE.l7
      have ne7: ¬(w.heap.size+1=3):=om
      have ne7': ¬(3=w.heap.size+1):=om
      have M4:=M3.out.go hb4
      have m0:=M4.c 0 _ rfl;have m1:=M4.c 1 _ rfl;have m2:=M4.c 2 _ rfl;have f0:=M4.f 0 sI;have f1:=M4.f 1 sI;have f2:=M4.f 2 sI;have ml8:=M4.lt
      have LF:=ah (M4.mJ (.int .i64 0) (.int .i64 0) (.int .i64 0))
      have HLOW:=ah hlow
      clear M4 E4 hlow CF
      go_wp2
      go_region
      all_goals go_wp2
      all_goals
       have e0:=LF.out.c 0 _ rfl;have e1:=LF.out.c 1 _ rfl;have e2:=LF.out.c 2 _ rfl
       refine bodyPost_ret (v:=.tuple #[plV (0,0,0),iP ev 7]) (by simp[e0,e1,e2,results,fB,go_sem,plV]) rfl ?_
       rw[TT.out,HLOW.out]
       refine⟨rfl,HH.out.below (show Below w.heap.size w _ from ?_),Keep.of ?_⟩
       all_goals (exact Keep.nX (by repeat(first|exact Keep.of K4|refine Keep.alloc ?_ _|refine Keep.drew ?_|refine Keep.drewN ?_ _|refine Keep.setCell ?_ (.inr (by first|omega|(simp;omega)|(simp;done))) _)))
    ·have et:t=L.length:=by omega
     subst et
     have hlow:uW k L=5:=by
      unfold uW
      rw[if_neg]
      intro q
      obtain⟨y,hy,hs⟩:=dM.1 q
      rw[NOS.out y (by rw[bg];exact hy)] at hs
      cases hs
     have E4:=(hE.go KR2).d
     have c7:=E4.c5
     have l7:=hE.d.l5
     have ne7: ¬(w.heap.size+1=4):=om
     have ne7': ¬(4=w.heap.size+1):=om
     have M4:=M8.out
     have m0:=M4.c 0 _ rfl;have m1:=M4.c 1 _ rfl;have m2:=M4.c 2 _ rfl;have f0:=M4.f 0 sI;have f1:=M4.f 1 sI;have f2:=M4.f 2 sI;have ml8:=M4.lt
     have LF:=ah (M4.mJ (.int .i64 0) (.int .i64 0) (.int .i64 0))
     have HLOW:=ah hlow
     clear M4 E4 hlow
     go_wp2
     go_region
     all_goals go_wp2
     all_goals
      have e0:=LF.out.c 0 _ rfl;have e1:=LF.out.c 1 _ rfl;have e2:=LF.out.c 2 _ rfl
      refine bodyPost_ret (v:=.tuple #[plV (0,0,0),iP ev 5]) (by simp[e0,e1,e2,results,fB,go_sem,plV]) rfl ?_
      rw[TT.out,HLOW.out]
      refine⟨rfl,HH.out.below (show Below w.heap.size w _ from ?_),Keep.of ?_⟩
      all_goals (exact Keep.nX (by repeat(first|exact Keep.of KR2|refine Keep.alloc ?_ _|refine Keep.drew ?_|refine Keep.drewN ?_ _|refine Keep.setCell ?_ (.inr (by first|omega|(simp;omega)|(simp;done))) _)))
theorem sw {B:Nat} {ev:Nat→Addr} (pz:Nat) (mn lw hi:Int) (O:List (List Int)) (L:List Nd) (v k:Int) (u:Bool) (w:World) (hE:nI B ev w) (h:iH B w pz mn lw hi O L) (hL:0<L.length):
 Calls Tryz.prog 27 #[.pointer (some ⟨pz,0,none⟩),.int .i64 v,.int .i64 k,.bool u] w (vk B ev pz mn lw hi O L w (gY mn O L v k u)):=by
 by_cases hv:v<0∨(L.length:Int)≤v
 ·refine(AO pz mn lw hi O L v k u w hE h hL hv).mono fun e w' ⟨h1,h2⟩=> ?_
  rw[oq om]
  exact⟨h1,h.below h2,Keep.of h2⟩
 ·obtain⟨n,rfl⟩: ∃n:Nat,v=n:=⟨v.toNat,om⟩
  by_cases hk:k<0∨6<k
  ·refine(yu pz mn lw hi O L n k u w hE h om hk).mono fun e w' ⟨h1,h2⟩=> ?_
   rw[oq om]
   exact⟨h1,h.below h2,Keep.of h2⟩
  ·exact AP pz mn lw hi O L n k u w hE h om om om
end
section
open Go.RowKit Go.Maps
def oG (B:Nat) (ev:Nat→Addr) (pz:Nat) (mn lw hi:Int) (O:List (List Int)) (L:List Nd) (w:World) (r:List Nd×Nat) (e:Ending) (w':World):Prop:=
 e= .returned (iP ev r.2)∧iH B w' pz mn lw hi O r.1∧Keep (ys L) w w'
theorem wN {L:List Nd} {v a k:Int} (h:v<0∨(L.length:Int)≤v):jH L v a k=(L,2):=by unfold jH;rw[if_pos h]
theorem zM {L:List Nd} {v:Nat} {a k:Int} {x:Nd} (hx:L[v]?=some x) (h:jK x.T a≠some k):jH L v a k=(L,4):=by
 have:=(ak.1 hx).1
 unfold jH;rw[if_neg om,bC,hx];simp only;rw[if_neg h]
theorem wO {L:List Nd} {v:Nat} {a k:Int} {x:Nd} (hx:L[v]?=some x) (h:jK x.T a=some k):jH L v a k=(L.set v (gaveN a k x),0):=by
 have:=(ak.1 hx).1
 unfold jH;rw[if_neg om,bC,hx];simp only;rw[if_pos h]
theorem Dq {B:Nat} {ev:Nat→Addr} (pz:Nat) (mn lw hi:Int) (O:List (List Int)) (L:List Nd) (v a k:Int) (w:World) (hE:nI B ev w) (h:iH B w pz mn lw hi O L) (hL:0<L.length) (ha:(Lit.int .i64 a).wf=true):
 Calls Tryz.prog 131 #[.pointer (some ⟨pz,0,none⟩),.agg #[.int .i64 v,.int .i64 a,.int .i64 k]] w (oG B ev pz mn lw hi O L w (jH L v a k)):=by
 have hB:=hE.size
 have b0:Below w.heap.size w (w.alloc (.cells [.int .i64 v,.int .i64 a,.int .i64 k].toArray 61)):=gI
 have L0:=ah (gH.mk_ w [.int .i64 v,.int .i64 a,.int .i64 k] 61 rfl)
 have HH:=ah h;have HE:=ah hE;have HB0:=ah b0
 by_cases hv:v<0∨(L.length:Int)≤v
 ·rw[wN hv]
  have NO:=ah (qG pz mn lw hi O L v _ (hE.c.go b0) (h.below b0) hL hv)
  have e1:iP ev 2= .iface 434 (.pointer (some (ev 2))):=rfl
  unfold oG
  simp only
  rw[e1] at NO ⊢
  clear h hE hv b0 e1
  go_enter Tryz.func131,Tryz.ntmps131
  go_wp2_with fail
  refine NO.out.mono ?_
  rintro e w1 ⟨rfl,hb1⟩
  have K1:Below w.heap.size w w1:=HB0.out.trans (hb1.mono sI)
  go_wp2
  go_ret
  exact⟨rfl,HH.out.below K1,Keep.of K1⟩
 obtain⟨vn,rfl⟩: ∃n:Nat,v=n:=⟨v.toNat,om⟩
 have hvl:vn<L.length:=om
 obtain⟨x,hx⟩: ∃x,L[vn]?=some x:=⟨L[vn],au hvl⟩
 have hxm:=aA hx
 have NO:=ah (rZ pz mn lw hi O L vn _ (h.below b0) hvl)
 have v0:(0:Int)≤(vn:Int):=om
 have v1:(vn:Int)<(L.length:Int):=om
 have hlf:=h.b.lim x.bf (kL.2 ⟨x,hxm,.inl rfl⟩)
 have hlt:=h.b.lim x.bt (kL.2 ⟨x,hxm,.inr rfl⟩)
 by_cases hg:jK x.T a=some k
 ·rw[wO hx hg]
  have hI:=(h.b.bud x hxm).2
  have GI:Hid (∀W,Below w.heap.size w W→Calls Tryz.prog 227 #[.pointer (some ⟨x.pb,0,none⟩),.agg #[.int .i64 a,.int .i64 k]] W fun e w'=>e= .returned .nilIface∧Bud w' x.pb x.n x.bf x.bt (sQ a k x.F) (iV a x.T)∧Keep [x.bf,x.bt] W w'):=fun W hb=>give_ok x.pb x.n x.bf x.bt x.F x.T a k W (HE.out.go hb).c hlf.1 hlt.1 ((h.b.bud x hxm).1.below hb) hI (j5 hg)
  have HIG:=ah (hI.give (j5 hg))
  have HX:=ah hx
  unfold oG
  simp only
  clear h hE b0 hI hg hx hv
  go_enter Tryz.func131,Tryz.ntmps131
  go_wp2_with fail
  refine NO.out.mono ?_
  rintro e w1 ⟨rfl,hb1⟩
  have K1:Below w.heap.size w w1:=HB0.out.trans (hb1.mono sI)
  obtain⟨g,off,kn,qo,ko,hz,_,hgl,hk1,hk2,hc,_⟩:=(HH.out.below K1).open om
  have r0:=hc vn x HX.out
  have c5:=hz.c 5 _ rfl;have cl:=hz.lt
  have P:=L0.out.go hb1
  have p0:=P.c 0 _ rfl;have p1:=P.c 1 _ rfl;have p2:=P.c 2 _ rfl;have pl:=P.lt
  unfold maxLen at hk2
  have KK:=ah K1
  clear hz hc P NO hb1 K1
  go_wp2_with fail
  refine iK 10 kR kR ?_
  simp only[aO,aX,aP,aV]
  repeat still_step
  refine wpStill_nil ?_
  go_wp2_with fail
  refine(GI.out _ KK.out.drew).mono ?_
  rintro e w2 ⟨rfl,hbd,hk⟩
  have k2:Keep [x.bf,x.bt] w w2:=(Keep.of KK.out.drew).then hk
  obtain⟨q1,q2⟩:=iH.keep (S:=[]) HH.out HX.out hbd HIG.out k2
  have Q1:=ah q1;have Q2:=ah q2
  clear hbd hk k2 q1 q2 GI
  go_wp2
  go_ret
  exact⟨rfl,Q1.out,Q2.out⟩
 ·rw[zM hx hg]
  have hh:hasL x.T a k=false:=by unfold hasL;simpa using hg
  have GI:Hid (∀W,Below w.heap.size w W→Calls Tryz.prog 227 #[.pointer (some ⟨x.pb,0,none⟩),.agg #[.int .i64 a,.int .i64 k]] W fun e w'=>e= .returned (.iface 434 (.pointer (some (ev 4))))∧Below W.heap.size W w'):=fun W hb=>Ct x.pb x.n x.bf x.bt x.F x.T a k W (HE.out.go hb).c ((h.b.bud x hxm).1.below hb) ha hh
  have HX:=ah hx
  unfold oG
  simp only[iP]
  clear h hE b0 hg hx hv hh
  go_enter Tryz.func131,Tryz.ntmps131
  go_wp2_with fail
  refine NO.out.mono ?_
  rintro e w1 ⟨rfl,hb1⟩
  have K1:Below w.heap.size w w1:=HB0.out.trans (hb1.mono sI)
  obtain⟨g,off,kn,qo,ko,hz,_,hgl,hk1,hk2,hc,_⟩:=(HH.out.below K1).open om
  have r0:=hc vn x HX.out
  have c5:=hz.c 5 _ rfl;have cl:=hz.lt
  have P:=L0.out.go hb1
  have p0:=P.c 0 _ rfl;have p1:=P.c 1 _ rfl;have p2:=P.c 2 _ rfl;have pl:=P.lt
  unfold maxLen at hk2
  have KK:=ah K1
  clear hz hc P NO hb1 K1
  go_wp2_with fail
  refine iK 10 kR kR ?_
  simp only[aO,aX,aP,aV]
  repeat still_step
  refine wpStill_nil ?_
  go_wp2_with fail
  refine(GI.out _ KK.out.drew).mono ?_
  rintro e w2 ⟨rfl,hb2⟩
  have K2:Below w.heap.size w w2:=KK.out.trans (((aK _ _).drew.trans hb2).mono KK.out.size)
  clear GI
  go_wp2
  go_ret
  exact⟨rfl,HH.out.below K2,Keep.of K2⟩
end
section
open Go.RowKit Go.Maps
structure nG (X:List Nat) (B:Nat) (w:World) (pz:Nat) (mn lw hi:Int) (O:List (List Int)) (L:List Nd):Prop where
 z: ∃qn kn qo ko,gH w pz [.slice none 0 0,.slice none 0 0,.int .i64 mn,.int .i64 lw,.int .i64 hi,.slice qn L.length kn,.slice qo L.length ko]∧j6 X w (.slice qn L.length kn) (ptrs L)∧rP X w (.slice qo L.length ko) O
 b:xH B w L
 mem: ∀y∈ys L,y∈X
 out:pz∉X
 outb: ∀x∈L,x.pb∉X
 ord:vM O L.length
 m0:0≤mn∧mn≤lw∧lw≤hi∧hi≤9223372036854775807
theorem rP.sub {X Y:List Nat} {w:World} {v:Value} {N:List (List Int)} (h:rP Y w v N) (hX: ∀x∈X,x∈Y):rP X w v N:=by
 obtain⟨us,h1,h2,h3⟩:=h
 exact⟨us,h1,h2.sub hX,fun j u xs hu hx=>(h3 j u xs hu hx).sub hX⟩
section
variable {X Y S:List Nat} {B:Nat} {w w':World} {pz:Nat} {mn lw hi:Int} {O:List (List Int)} {L L':List Nd}
theorem nG.toB (h:nG X B w pz mn lw hi O L):iH B w pz mn lw hi O L:=by
 obtain⟨qn,kn,qo,ko,h1,h2,h3⟩:=h.z
 exact⟨⟨qn,kn,qo,ko,h1,h2.sub h.mem,h3.sub h.mem⟩,h.b,fun q=>h.out (h.mem _ q),h.ord,h.m0⟩
theorem iH.toX (h:iH B w pz mn lw hi O L):nG (ys L) B w pz mn lw hi O L:=⟨h.z,h.b,fun _ q=>q,h.out,h.b.out,h.ord,h.m0⟩
theorem nG.keep (h:nG X B w pz mn lw hi O L) (k:Keep S w w') (hs: ∀s∈S,(s∈X∧s∉ys L)∨w.heap.size≤s):nG X B w' pz mn lw hi O L:=by
 obtain⟨qn,kn,qo,ko,h1,h2,h3⟩:=h.z
 have hX: ∀s∈S,s∈X∨w.heap.size≤s:=fun s q=>(hs s q).imp And.left id
 refine⟨⟨qn,kn,qo,ko,h1.keep k fun q=> ?_,h2.keep k hX,h3.keep k hX⟩,h.b.keep k fun x hx=>⟨fun q=> ?_,fun q=> ?_,fun q=> ?_⟩,h.mem,h.out,h.outb,h.ord,h.m0⟩
 ·rcases hX _ q with r|r
  ·exact h.out r
  ·have:=h1.lt;omega
 ·rcases hX _ q with r|r
  ·exact h.outb x hx r
  ·have:=(h.b.bud x hx).1.ltp;omega
 ·rcases hs _ q with r|r
  ·exact r.2 (kL.2 ⟨x,hx,.inl rfl⟩)
  ·have:=(h.b.bud x hx).1.ltf;omega
 ·rcases hs _ q with r|r
  ·exact r.2 (kL.2 ⟨x,hx,.inr rfl⟩)
  ·have:=(h.b.bud x hx).1.ltt;omega
theorem nG.below (h:nG X B w pz mn lw hi O L) (k:Below w.heap.size w w'):nG X B w' pz mn lw hi O L:=h.keep (Keep.of (S:=[]) k) (fun s q=>by cases q)
theorem nG.more (h:nG X B w pz mn lw hi O L) (hX: ∀x∈X,x∈Y) (hY: ∀y∈Y,y∈X∨w.heap.size≤y):nG Y B w pz mn lw hi O L:=by
 obtain⟨qn,kn,qo,ko,h1,h2,h3⟩:=h.z
 refine⟨⟨qn,kn,qo,ko,h1,h2.more hY,h3.more hY⟩,h.b,fun y hy=>hX y (h.mem y hy),fun q=> ?_,fun x hx q=> ?_,h.ord,h.m0⟩
 ·rcases hY _ q with r|r
  ·exact h.out r
  ·have:=h1.lt;omega
 ·rcases hY _ q with r|r
  ·exact h.outb x hx r
  ·have:=(h.b.bud x hx).1.ltp;omega
theorem nG.after (h:nG X B w pz mn lw hi O L) (k:Keep (ys L) w w') (hb:iH B w' pz mn lw hi O L') (hs:iE L L'):nG X B w' pz mn lw hi O L':=by
 obtain⟨qn,kn,qo,ko,h1,h2,h3⟩:=h.z
 have ep:ptrs L'=ptrs L:=hs.map (fun x=>Value.pointer (some ⟨x.pb,0,none⟩)) fun x y q=>by rw[q.pb]
 have el:L'.length=L.length:=hs.1.symm
 refine⟨⟨qn,kn,qo,ko,by rw[el];exact h1.keep k (fun q=>h.out (h.mem _ q)),by rw[el,ep];exact h2.keep k (fun s q=>.inl (h.mem s q)),by rw[el];exact h3.keep k (fun s q=>.inl (h.mem s q))⟩,hb.b,by rw[hs.ys];exact h.mem,h.out,fun y hy=> ?_,hb.ord,h.m0⟩
 obtain⟨i,hi⟩:=bV hy
 have hl:=(ak.1 hi).1
 obtain⟨x,hx⟩: ∃x,L[i]?=some x:=⟨L[i]' om,au _⟩
 rw[(hs.2 i x y hx hi).pb]
 exact h.outb x (aA hx)
end
end
section
open Go.RowKit Go.Maps
attribute [local go_sem ↓] bA bB
theorem zN {P:List Int} {N:List (List Int)} {mn lw hi:Int} (h:mq P N mn lw hi=0):1≤P.length∧P.length≤4∧(∀p∈P,1≤p∧p≤256)∧N.length=P.length∧(∀l∈N,l.length=P.length)∧0≤mn∧mn≤lw∧lw≤hi:=by
 unfold mq at h
 split at h
 ·omega
 split at h
 ·rename_i h1 h2
  have hb:qE P N mn lw hi=true:=by cases e:qE P N mn lw hi with|true=>rfl|false=>exact absurd e h1
  unfold qE jM at hb
  unfold sqC at h2
  simp at hb h2
  obtain⟨⟨⟨⟨b1,b2⟩,b3⟩,_⟩,b5⟩:=hb
  obtain⟨⟨s1,s2⟩,_⟩:=h2
  refine⟨om,b2,fun p hp=> ?_,s1,fun l hl=> ?_,om,om,om⟩
  ·have:=b3 p hp
   unfold o9 at this
   simp at this;omega
  ·have:=s2 l hl
   unfold jC at this
   simp at this;omega
 ·omega
theorem vw {w:World} {b:Nat} {u:Value} (h:w.cell? ⟨b,0,none⟩=some u):sS w (some ⟨b,0,none⟩) [u]:=
 .inr ⟨_,rfl,fun j x hj=>by
  rw[addr_add]
  cases j with
  |zero=>simp at hj;subst hj;exact h
  |succ j=>simp at hj⟩
theorem Keep.cell0 {S:List Nat} {w w':World} (k:Keep S w w') {b:Nat} (h1:b<w.heap.size) (h2:b∉S) {u:Value} (h:w.cell? ⟨b,0,none⟩=some u):w'.cell? ⟨b,0,none⟩=some u:=(k.cell h1 h2).trans h
structure wP (B:Nat) (X:List Nat) (w:World) (pz:Nat) (cs:List Value) (qn:Option Addr) (kn:Nat) (qo:Option Addr) (ko:Nat) (i:Nat) (L:List Nd) (us:List Value) (O:List (List Int)):Prop where
 z:gH w pz (cs++[.slice qn i kn,.slice qo i ko])
 on:w.ownsRow (pz+1) 193 1 (.slice qn i kn) i (ptrs L)
 oo:w.ownsRow (pz+1) 22 1 (.slice qo i ko) i us
 ne: ∀g∈gQ (.slice qn i kn),g∉gQ (.slice qo i ko)
 b:xH B w L
 far: ∀x∈L,∀a,a=x.pb∨a=x.bf∨a=x.bt→a≠pz∧a∉gQ (.slice qn i kn)∧a∉gQ (.slice qo i ko)
 rows: ∀(j:Nat) (u:Value) (D:List Int),us[j]?=some u→O[j]?=some D→j6 (ys L++pz::(gQ (.slice qn i kn)++gQ (.slice qo i ko))) w u (ints D)
 lO:O.length=i
 lL:L.length=i
 lu:us.length=i
theorem wP.start {B:Nat} {X:List Nat} {w:World} {pz:Nat} {cs:List Value} (h:gH w pz (cs++[.slice none 0 0,.slice none 0 0])):wP B X w pz cs none 0 none 0 0 [] [] []:=
 ⟨h,aR _ _ _ _,aR _ _ _ _,fun g hg=>by simp[gQ,Value.ownBlock] at hg,⟨(fun x hx=>by cases hx),(by simp[ys]),(fun x hx=>by cases hx),(fun y hy=>by simp[ys] at hy)⟩,(fun x hx=>by cases hx),(fun j u D hj=>by simp at hj),rfl,rfl,rfl⟩
theorem wP.step {B:Nat} {X:List Nat} {w0 w3 W1 w4 W2 w6 w7:World} {pz:Nat} {cs:List Value} {qn qo qn' qo':Option Addr} {kn ko kn' ko' i:Nat} {L:List Nd} {us:List Value} {O:List (List Int)} (h:wP B X w0 pz cs qn kn qo ko i L us O)
 (hB:B≤w0.heap.size) (hb3:Below w0.heap.size w0 w3) (x:Nd) (hx:Bud w3 x.pb x.n x.bf x.bt x.F x.T) (hi:Inv x.n x.F x.T) (h1:w0.heap.size≤x.pb) (h2:w0.heap.size≤x.bf) (h3:w0.heap.size≤x.bt)
 {g cap:Nat} {D:List Int} {n:Nat} (hD:gH w3 g (ints D)) (hg:w0.heap.size≤g) (hgp:x.bf≠g∧x.bt≠g) (hn:D.length=n) (hcap:n≤cap) (hmx:cap≤maxLen)
 (K1:Keep [] w3 W1) (hg4:W1.grownBy w4 (Value.slice qn i kn).ownBlock) (ho4:(Value.slice qn' (i+1) kn').ownBlock=(Value.slice qn i kn).ownBlock∨(Value.slice qn' (i+1) kn').ownBlock=some W1.heap.size)
 (on4:w4.ownsRow (pz+1) 193 1 (.slice qn' (i+1) kn') (i+1) (ptrs (L++[x])))
 (K2:Keep [] w4 W2) (hg6:W2.grownBy w6 (Value.slice qo i ko).ownBlock) (ho6:(Value.slice qo' (i+1) ko').ownBlock=(Value.slice qo i ko).ownBlock∨(Value.slice qo' (i+1) ko').ownBlock=some W2.heap.size)
 (oo6:w6.ownsRow (pz+1) 22 1 (.slice qo' (i+1) ko') (i+1) (us++[.slice (some ⟨g,0,none⟩) n cap]))
 (hcs:cs.length=5) (e7:w7=(w6.setCell ⟨pz,5,none⟩ (.slice qn' (i+1) kn')).setCell ⟨pz,6,none⟩ (.slice qo' (i+1) ko')):
 wP B X w7 pz cs qn' kn' qo' ko' (i+1) (L++[x]) (us++[.slice (some ⟨g,0,none⟩) n cap]) (O++[D])∧Keep (pz::(gQ (.slice qn i kn)++gQ (.slice qo i ko))) w3 w7:=by
 have s3:=hb3.size
 have zl:=h.z.lt
 have sW1:=K1.size
 have s4:=hg4.size
 have sW2:=K2.size
 have s6:=hg6.size
 have onl: ∀a∈gQ (.slice qn i kn),pz+1≤a∧a<w0.heap.size:=fun a ha=>gV h.on ha
 have ool: ∀a∈gQ (.slice qo i ko),pz+1≤a∧a<w0.heap.size:=fun a ha=>gV h.oo ha
 have on4l: ∀a∈gQ (.slice qn' (i+1) kn'),pz+1≤a∧a<w4.heap.size:=fun a ha=>gV on4 ha
 have onew: ∀a∈gQ (.slice qn' (i+1) kn'),a∈gQ (.slice qn i kn)∨w3.heap.size≤a:=fun a ha=>(ru ho4 a ha).imp id (fun r=>om)
 have Dr: ∀a∈gQ (.slice qo' (i+1) ko'),a∈gQ (.slice qo i ko)∨w4.heap.size≤a:=fun a ha=>(ru ho6 a ha).imp id (fun r=>om)
 have k34:Keep (gQ (.slice qn i kn)) w3 w4:=(K1.mono (fun s hs=>by cases hs)).then (iF hg4)
 have k46:Keep (gQ (.slice qo i ko)) w4 w6:=(K2.mono (fun s hs=>by cases hs)).then (iF hg6)
 have k67:Keep [pz] w6 w7:=by rw[e7];exact((Keep.refl _ _).setCell (.inl sI) _).setCell (.inl sI) _
 have k47:Keep (pz::gQ (.slice qo i ko)) w4 w7:=(k46.mono (fun s hs=>aj _ hs)).then (k67.mono (fun s hs=>by simp at hs;simp[hs]))
 have k37:Keep (pz::(gQ (.slice qn i kn)++gQ (.slice qo i ko))) w3 w7:=(k34.mono (fun s hs=>by simp[hs])).then (k47.mono (fun s hs=>by simp at hs ⊢;rcases hs with q|q;(·exact .inl q);(·exact .inr (.inr q))))
 have z3:=h.z.go hb3
 have z6:gH w6 pz (cs++[.slice qn i kn,.slice qo i ko]):=(z3.keep k34 (fun q=>by have:=onl _ q;omega)).keep k46 (fun q=>by have:=ool _ q;omega)
 have z7:gH w7 pz (cs++[.slice qn' (i+1) kn',.slice qo' (i+1) ko']):=by
  have:=(z6.store 5 (.slice qn' (i+1) kn') (by simp[hcs])).store 6 (.slice qo' (i+1) ko') (by simp[hcs])
  rw[e7]
  simpa[List.set_append,hcs] using this
 have bu3:=h.b.snoc hb3 x hx hi hB h1 h2 h3
 have farn: ∀a,a=x.pb∨a=x.bf∨a=x.bt→a<w3.heap.size∧w0.heap.size≤a:=fun a ha=>by
  rcases ha with rfl|rfl|rfl
  ·exact⟨hx.ltp,h1⟩
  ·exact⟨hx.ltf,h2⟩
  ·exact⟨hx.ltt,h3⟩
 have far0: ∀y∈L++[x],∀a,a=y.pb∨a=y.bf∨a=y.bt→a<w3.heap.size∧a≠pz∧a∉gQ (.slice qn i kn)∧a∉gQ (.slice qo i ko):=fun y hy a ha=>by
  rcases aF.1 hy with q|q
  ·obtain⟨f1,f2,f3⟩:=h.far y q a ha
   have b0:=(h.b.bud y q).1
   have:a<w0.heap.size:=by
    rcases ha with rfl|rfl|rfl
    ·exact b0.ltp
    ·exact b0.ltf
    ·exact b0.ltt
   exact⟨om,f1,f2,f3⟩
  ·simp at q;subst q
   obtain⟨f1,f2⟩:=farn a ha
   exact⟨f1,om,fun q=>by have:=onl _ q;omega,fun q=>by have:=ool _ q;omega⟩
 have bu7:xH B w7 (L++[x]):=bu3.keep k37 (fun y hy=>by
  have a1:=far0 y hy _ (.inl rfl);have a2:=far0 y hy _ (.inr (.inl rfl));have a3:=far0 y hy _ (.inr (.inr rfl))
  simp only[aC,aF,not_or]
  exact⟨a1.2,a2.2,a3.2⟩)
 have on7:w7.ownsRow (pz+1) 193 1 (.slice qn' (i+1) kn') (i+1) (ptrs (L++[x])):=iB on4 k47 (fun a ha q=>by
  have l4:=on4l a q
  simp at ha
  rcases ha with rfl|ha
  ·omega
  ·rcases onew a q with r|r
   ·exact h.ne a r ha
   ·have:=ool a ha;omega)
 have oo7:w7.ownsRow (pz+1) 22 1 (.slice qo' (i+1) ko') (i+1) (us++[.slice (some ⟨g,0,none⟩) n cap]):=iB oo6 k67 (fun a ha q=>by
  simp at ha;subst ha
  have:=gV oo6 q;omega)
 have gl:g<w3.heap.size:=hD.lt
 have hSS: ∀s∈pz::(gQ (.slice qn i kn)++gQ (.slice qo i ko)),s∈ys L++pz::(gQ (.slice qn i kn)++gQ (.slice qo i ko)):=fun s hs=>aB _ hs
 refine⟨⟨z7,on7,oo7,fun a ha hb=> ?_,bu7,fun y hy a ha=> ?_,fun j u D' hj hD'=> ?_,by simp[h.lO],by simp[h.lL],by simp[h.lu]⟩,k37⟩
 ·rcases onew a ha with r|r
  ·rcases Dr a hb with r2|r2
   ·exact h.ne a r r2
   ·have:=onl a r;omega
  ·rcases Dr a hb with r2|r2
   ·have:=ool a r2;omega
   ·have:=(on4l a ha).2;omega
 ·obtain⟨f1,f2,f3,f4⟩:=far0 y hy a ha
  exact⟨f2,fun q=>by rcases onew a q with r|r;(·exact f3 r);(·omega),fun q=>by rcases Dr a q with r|r;(·exact f4 r);(·omega)⟩
 ·by_cases e:j<us.length
  ·rw[bJ e] at hj
   rw[bJ (by rw[h.lO,←h.lu];exact e)] at hD'
   have r0:=(h.rows j u D' hj hD').below hb3
   have r1:=(h.rows j u D' hj hD').more (Y:=(ys (L++[x])++pz::(gQ (.slice qn' (i+1) kn')++gQ (.slice qo' (i+1) ko')))++(ys L++pz::(gQ (.slice qn i kn)++gQ (.slice qo i ko)))) (fun y hy=>by
    simp only[rR,aF,aC] at hy ⊢
    rcases hy with((hy|hy)|hy|hy|hy)|hy
    ·exact .inl (.inl hy)
    ·simp at hy;rcases hy with rfl|rfl<;>exact .inr om
    ·exact .inl (.inr (.inl hy))
    ·rcases onew y hy with r|r
     ·exact .inl (.inr (.inr (.inl r)))
     ·exact .inr om
    ·rcases Dr y hy with r|r
     ·exact .inl (.inr (.inr (.inr r)))
     ·exact .inr om
    ·exact .inl hy)
   exact((r1.below hb3).keep k37 (fun s hs=>.inl (aB _ (hSS s hs)))).sub (fun y hy=>av _ hy)
  ·have hl:=(ak.1 hj).1
   simp at hl
   have e2:j=us.length:=om
   subst e2
   rw[bQ (aH _)] at hj
   rw[h.lu,←h.lO,bQ (aH _)] at hD'
   simp at hj hD'
   subst hj hD'
   have r3:j6 ((ys (L++[x])++pz::(gQ (.slice qn' (i+1) kn')++gQ (.slice qo' (i+1) ko')))++(pz::(gQ (.slice qn i kn)++gQ (.slice qo i ko)))) w3 (.slice (some ⟨g,0,none⟩) n cap) (ints D):=by
    have:=uV (X:=(ys (L++[x])++pz::(gQ (.slice qn' (i+1) kn')++gQ (.slice qo' (i+1) ko')))++(pz::(gQ (.slice qn i kn)++gQ (.slice qo i ko)))) (cap:=cap) hD (fun q=>by
     simp only[rR,aF,aC] at q
     rcases q with((q|q)|q|q|q)|q|q|q
     ·have:=(h.b.lim g q).2;omega
     ·simp at q;rcases q with q|q
      ·exact hgp.1 q.symm
      ·exact hgp.2 q.symm
     ·omega
     ·rcases onew g q with r|r
      ·have:=onl g r;omega
      ·omega
     ·rcases Dr g q with r|r
      ·have:=ool g r;omega
      ·omega
     ·omega
     ·have:=onl g q;omega
     ·have:=ool g q;omega) (by rw[gZ];omega) hmx
    rwa [gZ,hn] at this
   exact(r3.keep k37 (fun s hs=>.inl (aB _ hs))).sub (fun y hy=>av _ hy)
def qg (X:List Nat) (P:List Int) (N:List (List Int)) (w w1:World) (n:Nat) (cs:List Value) (i:Nat) (qn qo:Option Addr) (kn ko:Nat) (L:List Nd) (us:List Value) (O:List (List Int)) (wr:World):Prop:=
 wP w.heap.size X wr w1.heap.size cs qn kn qo ko i L us O∧L.map (·.n)=P.take i∧(∀x∈L,x.F=lX 0 x.n∧x.T=[])∧(∀(j:Nat) (l D:List Int),N[j]?=some l→O[j]?=some D→jY l n D)∧Below w1.heap.size w1 wr
theorem qg.next {X:List Nat} {P:List Int} {N:List (List Int)} {w w1 wr w2 w3 W1 w4 W2 w6:World} {n i:Nat} {cs:List Value} {qn qo qn' qo':Option Addr} {kn ko kn' ko':Nat} {L:List Nd} {us:List Value} {O:List (List Int)} (h:qg X P N w w1 n cs i qn qo kn ko L us O wr)
 (KW:Below w.heap.size w wr) (hb2:Below wr.heap.size wr w2) (hb3:Below w2.heap.size w2 w3) {pb bf bt:Nat} {x:Int} (su:Bud w2 pb x bf bt (lX 0 x) []) (hx:1≤x∧x≤256) (g1:wr.heap.size≤pb) (g2:wr.heap.size≤bf) (g3:wr.heap.size≤bt)
 {g cp:Nat} {D l:List Int} (hD:gH w3 g (ints D)) (hg:w2.heap.size≤g) (hO:jY l n D) (hcap:n≤cp) (hmx:cp≤maxLen) (hP:P[i]?=some x) (hN:N[i]?=some l)
 (K1:Keep [] w3 W1) (hg4:W1.grownBy w4 (Value.slice qn i kn).ownBlock) (ho4:(Value.slice qn' (i+1) kn').ownBlock=(Value.slice qn i kn).ownBlock∨(Value.slice qn' (i+1) kn').ownBlock=some W1.heap.size)
 (on4:w4.ownsRow (w1.heap.size+1) 193 1 (.slice qn' (i+1) kn') (i+1) (ptrs L++[.pointer (some ⟨pb,0,none⟩)]))
 (K2:Keep [] w4 W2) (hg6:W2.grownBy w6 (Value.slice qo i ko).ownBlock) (ho6:(Value.slice qo' (i+1) ko').ownBlock=(Value.slice qo i ko).ownBlock∨(Value.slice qo' (i+1) ko').ownBlock=some W2.heap.size)
 (oo6:w6.ownsRow (w1.heap.size+1) 22 1 (.slice qo' (i+1) ko') (i+1) (us++[.slice (some ⟨g,0,none⟩) n cp])) (hcs:cs.length=5):
 qg X P N w w1 n cs (i+1) qn' qo' kn' ko' (L++[⟨pb,bf,bt,x,lX 0 x,[]⟩]) (us++[.slice (some ⟨g,0,none⟩) n cp]) (O++[D]) ((w6.setCell ⟨w1.heap.size,5,none⟩ (.slice qn' (i+1) kn')).setCell ⟨w1.heap.size,6,none⟩ (.slice qo' (i+1) ko')):=by
 obtain⟨st,hLn,hLF,hOO,hbel⟩:=h
 have z2:=hb2.size
 have hlf:=su.ltf;have hlt:=su.ltt
 have zl:=st.z.lt
 obtain⟨s1,k37⟩:=st.step KW.size (hb2.trans (hb3.mono z2)) ⟨pb,bf,bt,x,lX 0 x,[]⟩ (su.below hb3) (Inv.start hx.1 hx.2) g1 g2 g3 hD om (by simp;omega) hO.len hcap hmx K1 hg4 ho4 (by rw[Dk];exact on4) K2 hg6 ho6 oo6 hcs rfl
 refine⟨s1,?_,fun y hy=> ?_,fun j l' D' hj hD'=> ?_,?_⟩
 ·rw[List.map_append,hLn,bF,hP];rfl
 ·rcases aF.1 hy with q|q
  ·exact hLF y q
  ·simp at q;subst q;exact⟨rfl,rfl⟩
 ·by_cases e:j<O.length
  ·rw[bJ e] at hD'
   exact hOO j l' D' hj hD'
  ·have hl:=(ak.1 hD').1
   simp at hl
   have e2:j=i:=by have:=st.lO;omega
   subst e2
   rw[hN] at hj;obtain rfl:=aI hj
   rw[bQ om] at hD'
   have:j-O.length=0:=om
   rw[this] at hD';simp at hD';subst hD'
   exact hO
 ·have z3:=hb3.size
  have zr:=hbel.size
  refine hbel.trans (((hb2.mono zr).trans (hb3.mono om)).trans (k37.below om fun s hs=> ?_))
  simp at hs
  rcases hs with rfl|hs|hs
  ·exact aH _
  ·have:=gV st.on hs;omega
  ·have:=gV st.oo hs;omega
theorem qg.fin {X:List Nat} {P:List Int} {N:List (List Int)} {w w1 wr:World} {n:Nat} {u0 u1:Value} {mn lw hi:Int} {qn qo:Option Addr} {kn ko:Nat} {L:List Nd} {us:List Value} {O:List (List Int)} (h:qg X P N w w1 n [u0,u1,.int .i64 mn,.int .i64 lw,.int .i64 hi] n qn qo kn ko L us O wr)
 (hm:0≤mn∧mn≤lw∧lw≤hi∧hi≤9223372036854775807) (hN:N.length=n):
 iH w.heap.size ((wr.setCell ⟨w1.heap.size,0,none⟩ (.slice none 0 0)).setCell ⟨w1.heap.size,1,none⟩ (.slice none 0 0)) w1.heap.size mn lw hi O L:=by
 obtain⟨st,hLn,hLF,hOO,hbel⟩:=h
 have lL:=st.lL
 have k:Keep [w1.heap.size] wr ((wr.setCell ⟨w1.heap.size,0,none⟩ (.slice none 0 0)).setCell ⟨w1.heap.size,1,none⟩ (.slice none 0 0)):=((Keep.refl _ _).setCell (p:=⟨w1.heap.size,0,none⟩) (.inl sI) _).setCell (p:=⟨w1.heap.size,1,none⟩) (.inl sI) _
 have hy: ∀y∈ys L,y≠w1.heap.size∧y∉gQ (.slice qn n kn)∧y∉gQ (.slice qo n ko):=fun y hy=>by
  obtain⟨x,hx,q⟩:=kL.1 hy
  exact st.far x hx y (.inr q)
 refine⟨⟨qn,kn,qo,ko,?_,?_,?_⟩,?_,?_,?_,hm⟩
 ·rw[lL]
  exact(st.z.store 0 (.slice none 0 0) sI).store 1 (.slice none 0 0) sI
 ·rw[lL]
  have lp:(ptrs L).length=n:=by rw[lQ];exact lL
  have o:=st.on
  rw[←lp] at o hy ⊢
  have r:=jP (X:=w1.heap.size::ys L) o (fun x hx g hg e=>by
   rcases aC.1 hx with rfl|hx
   ·have:=o.lt g hg;omega
   ·exact(hy x hx).2.1 (jl.2 (e▸hg)))
  exact(r.keep k (fun s hs=>by simp at hs;subst hs;exact .inl sI)).sub (fun s hs=>aj _ hs)
 ·rw[lL]
  refine⟨us,by rw[st.lu,st.lO],?_,fun j u D hj hD=> ?_⟩
  ·have o:=st.oo
   have lu:=st.lu
   rw[←lu] at o hy ⊢
   have r:=jP (X:=w1.heap.size::ys L) o (fun x hx g hg e=>by
    rcases aC.1 hx with rfl|hx
    ·have:=o.lt g hg;omega
    ·exact(hy x hx).2.2 (jl.2 (e▸hg)))
   exact(r.keep k (fun s hs=>by simp at hs;subst hs;exact .inl sI)).sub (fun s hs=>aj _ hs)
  ·have r:=st.rows j u D hj hD
   exact(r.keep k (fun s hs=>by simp at hs;subst hs;exact .inl sI)).sub (fun s hs=>av _ hs)
 ·exact st.b.keep k (fun x hx=>by
   have a1:=(st.far x hx _ (.inl rfl)).1;have a2:=(st.far x hx _ (.inr (.inl rfl))).1;have a3:=(st.far x hx _ (.inr (.inr rfl))).1
   simp;exact⟨a1,a2,a3⟩)
 ·exact fun q=>(hy _ q).1 rfl
 ·refine⟨by rw[st.lO,lL],fun D hD=> ?_⟩
  obtain⟨j,hj⟩:=bV hD
  have hjl:=(ak.1 hj).1
  have hjn:j<N.length:=by rw[hN,←st.lO];exact hjl
  have o:=hOO j N[j] D (au hjn) hj
  rw[lL]
  exact⟨o.len,o.mem⟩
def NewPost (P:List Int) (N:List (List Int)) (mn lw hi:Int) (w:World) (e:Ending) (w':World):Prop:=
 ∃(pz:Nat) (O:List (List Int)) (L:List Nd),e= .returned (.tuple #[.pointer (some ⟨pz,0,none⟩),.nilIface])∧iH w.heap.size w' pz mn lw hi O L∧w.heap.size≤pz∧L.map (·.n)=P∧(∀x∈L,x.F=lX 0 x.n∧x.T=[])∧(∀(i:Nat) (l D:List Int),N[i]?=some l→O[i]?=some D→jY l P.length D)∧Below w.heap.size w w'
theorem uj {B:Nat} {ev:Nat→Addr} (X:List Nat) (vP vN:Value) (P:List Int) (N:List (List Int)) (mn lw hi:Int) (w:World) (hE:jV B ev w) (h:Cfg X w vP vN P N) (hc:mq P N mn lw hi=0) (hhi:hi≤9223372036854775807):
 Calls Tryz.prog 18 #[.agg #[vP,vN,.int .i64 mn,.int .i64 lw,.int .i64 hi]] w (NewPost P N mn lw hi w):=by
 have hB:=hE.size
 obtain⟨c1,c2,c3,c4,c5,c6,c7,c8⟩:=zN hc
 obtain⟨p,cap,rfl,hcp,hmx,hcl⟩:=h.p.int
 obtain⟨q,k,rfl,hck,hkm,_⟩:=h.n.form
 have L0:gH (w.alloc (.cells [.slice p P.length cap,.slice q N.length k,.int .i64 mn,.int .i64 lw,.int .i64 hi].toArray 36)) w.heap.size [.slice p P.length cap,.slice q N.length k,.int .i64 mn,.int .i64 lw,.int .i64 hi]:=gH.new w _ _
 have hb0:Below w.heap.size w (w.alloc (.cells [.slice p P.length cap,.slice q N.length k,.int .i64 mn,.int .i64 lw,.int .i64 hi].toArray 36)):=gI
 have CH:=wE X _ _ P N mn lw hi _ (hE.below (hb0.mono hB)) (h.below hb0)
 rw[hc,show iP ev 0=Value.nilIface from rfl] at CH
 have CH':=ah CH
 have HL0:=ah L0;have HB0:=ah hb0
 have HH:=ah h;have HC:=ah hc;have CLl:=ah hcl
 have C3:=ah c3;have C4:=ah c4;have C5:=ah c5
 obtain⟨n,hn⟩: ∃n,n=P.length:=⟨_,rfl⟩
 rw[c4] at HL0 HB0 HH CH' hck ⊢
 rw[←hn] at c1 c2 HL0 HB0 HH CH' hck hcp ⊢
 have HN:=ah hn
 have C4':Hid (N.length=n):=by show _=_;rw[C4.out];exact HN.out.symm
 unfold maxLen at hmx hkm
 clear CH h hc hn hb0 L0 c3 c4 c5 hcl
 go_enter Tryz.func18,Tryz.ntmps18
 go_wp2_with fail
 refine CH'.out.mono ?_
 rintro e w1 ⟨rfl,hb1⟩
 have K1:Below w.heap.size w w1:=HB0.out.trans (hb1.mono sI)
 have M0:=ah (HL0.out.go hb1)
 have z1:=K1.size
 have m0:=M0.out.c 0 _ rfl;have m1:=M0.out.c 1 _ rfl;have m2:=M0.out.c 2 _ rfl;have m3:=M0.out.c 3 _ rfl;have m4:=M0.out.c 4 _ rfl;have ml:=M0.out.lt
 clear CH' HL0 HB0 hb1
 have ST0:Hid (wP w.heap.size X (w1.alloc (.cells #[.slice p n cap,.slice q n k,.int .i64 mn,.int .i64 lw,.int .i64 hi,.slice none 0 0,.slice none 0 0] 192)) w1.heap.size [.slice p n cap,.slice q n k,.int .i64 mn,.int .i64 lw,.int .i64 hi] none 0 none 0 0 [] [] []):=wP.start (gH.new w1 [.slice p n cap,.slice q n k,.int .i64 mn,.int .i64 lw,.int .i64 hi,.slice none 0 0,.slice none 0 0] _)
 have B0:Below w1.heap.size w1 (w1.alloc (.cells #[.slice p n cap,.slice q n k,.int .i64 mn,.int .i64 lw,.int .i64 hi,.slice none 0 0,.slice none 0 0] 192)):=gI
 go_wp2_with fail
 go_loopw [22] (fun iv wr=>∃(i:Nat) (qn qo:Option Addr) (kn ko:Nat) (L:List Nd) (us:List Value) (O:List (List Int)),i≤n∧iv= .int .i64 i∧qg X P N w w1 n [.slice p n cap,.slice q n k,.int .i64 mn,.int .i64 lw,.int .i64 hi] i qn qo kn ko L us O wr) (fun iv _=>n-(intOf iv).toNat)
 case atStart=>exact⟨0,none,none,0,0,[],[],[],aQ _,by go_num,ST0.out,(show _=_ by simp),(fun x hx=>by cases hx),(fun j l D _ hD=>by simp at hD),B0⟩
 case round=>
  obtain⟨i,qn,qo,kn,ko,L,us,O,hiN,rfl,hR⟩:=hrel
  have HR:=ah hR
  have ST:=ah hR.1
  have hbel:=hR.2.2.2.2
  clear hR
  clear ST0 B0
  have zr:=hbel.size
  have zl:w1.heap.size<wr.heap.size:=ST.out.z.lt
  have KW:Below w.heap.size w wr:=K1.trans (hbel.mono z1)
  by_cases hin:i<n
  ·obtain⟨x,hx⟩: ∃x,P[i]?=some x:=⟨P[i]'(by rw[←HN.out];exact hin),au _⟩
   obtain⟨l,hl⟩: ∃l,N[i]?=some l:=⟨N[i]'(by rw[C4.out,←HN.out];exact hin),au _⟩
   obtain⟨gp,op,rfl,_,hgp,hcx⟩:=CLl.out i x hx
   have r1:=(KW.cell (p:=⟨gp,op+i,none⟩) hgp).trans hcx
   have gr:gp<wr.heap.size:=om
   have hxr:=C3.out x (aA hx)
   have NB:=ah (new_ok x wr hxr.1 hxr.2)
   have HX1:=ah hx;have HL1:=ah hl
   clear hcx hx hl
   go_wp2_with fail
   refine NB.out.mono ?_
   rintro e w2 ⟨pb,bf,bt,rfl,su,⟨g1,g2,g3⟩,hb2⟩
   have HBU:=ah su
   have z2:=hb2.size
   have K2:Below w.heap.size w w2:=KW.trans (hb2.mono om)
   have M2:=((M0.out.go hbel).go hb2)
   have a0:=M2.c 0 _ rfl;have a1:=M2.c 1 _ rfl;have a2:=M2.c 2 _ rfl;have a3:=M2.c 3 _ rfl;have a4:=M2.c 4 _ rfl;have al:=M2.lt
   have OK':=order_ok X _ _ P N mn lw hi i l w2 (hE.below (K2.mono hB)) (HH.out.below K2) HC.out HL1.out (C5.out l (aA HL1.out)) C4.out (by rw[←HN.out];exact c2)
   rw[←HN.out] at OK'
   have OK2:=ah OK'
   clear NB su M2 OK'
   go_wp2_with fail
   refine OK2.out.mono ?_
   rintro e w3 ⟨g,cp,D,rfl,hO,hD,hg,hgc,hgm,hb3⟩
   have KR3:Below wr.heap.size wr w3:=hb2.trans (hb3.mono z2)
   have HOD:=ah hO;have HDD:=ah hD
   have Z3:=ah (ST.out.z.go KR3)
   have y5:=Z3.out.c 5 _ rfl;have y6:=Z3.out.c 6 _ rfl;have yl:=Z3.out.lt
   have z3:=KR3.size
   clear hO hD OK2 a0 a1 a2 a3 a4 al
   have lp:(ptrs L).length=i:=by rw[lQ];exact ST.out.lL
   have lu:=ST.out.lu
   have ON:Hid (∀W,Keep [] w3 W→W.ownsRow (w1.heap.size+1) 193 1 (.slice qn i kn) (ptrs L).length (ptrs L)):=fun W k=>by rw[lp];exact iB ST.out.on ((Keep.of (S:=[]) KR3).then k) (fun x hx=>by cases hx)
   have Z4:Hid (∀W1 w4 W2,Keep [] w3 W1→W1.grownBy w4 (Value.slice qn i kn).ownBlock→Keep [] w4 W2→gH W2 w1.heap.size [.slice (some ⟨gp,op,none⟩) n cap,.slice q n k,.int .i64 mn,.int .i64 lw,.int .i64 hi,.slice qn i kn,.slice qo i ko]):=fun W1 w4 W2 k1 hg k2=>((Z3.out.keep k1 sI).keep (iF hg) (fun hq=>by have:=gV ST.out.on hq;omega)).keep k2 sI
   have OO:Hid (∀W1 w4 W2,Keep [] w3 W1→W1.grownBy w4 (Value.slice qn i kn).ownBlock→Keep [] w4 W2→W2.ownsRow (w1.heap.size+1) 22 1 (.slice qo i ko) us.length us):=fun W1 w4 W2 k1 hg k2=>by
    rw[lu]
    exact iB (iB (iB ST.out.oo ((Keep.of (S:=[]) KR3).then k1) (fun x hx=>by cases hx)) (iF hg) (fun x hx q=>ST.out.ne x hx q)) k2 (fun x hx=>by cases hx)
   have Z6:Hid (∀W1 w4 W2 w6,Keep [] w3 W1→W1.grownBy w4 (Value.slice qn i kn).ownBlock→Keep [] w4 W2→W2.grownBy w6 (Value.slice qo i ko).ownBlock→gH w6 w1.heap.size [.slice (some ⟨gp,op,none⟩) n cap,.slice q n k,.int .i64 mn,.int .i64 lw,.int .i64 hi,.slice qn i kn,.slice qo i ko]):=fun W1 w4 W2 w6 k1 hg k2 hg6=>(Z4.out W1 w4 W2 k1 hg k2).keep (iF hg6) (fun hq=>by have:=gV ST.out.oo hq;omega)
   have NOX:Hid (∀b,w3.heap.size≤b→b∉gQ (.slice qn i kn)):=fun b hb q=>by have:=(gV ST.out.on q).2;omega
   have SZ:Hid (∀W,Keep [] w3 W→w1.heap.size+1≤W.heap.size):=fun W k=>by have:=k.size;omega
   have E4:Hid ((ptrs L++[Value.pointer (some ⟨pb,0,none⟩)]).length=i+1):=by show _=_;simp[lp]
   have E6:Hid ((us++[Value.slice (some ⟨g,0,none⟩) n cp]).length=i+1):=by show _=_;simp[lu]
   have HLP:=ah lp;have HLU:=ah lu
   clear lp lu
   go_wp2_with fail
   go_region_law (first
    |(refine l8 (base:=w1.heap.size+1) (v:=.slice qn i kn) (us:=ptrs L) (ms:=[.pointer (some ⟨pb,0,none⟩)]) elNode rf (.tmp 49) (.tmp 51) rf rf 1 rf rfl (ON.out _ (by repeat(first|exact Keep.refl _ _|refine Keep.alloc ?_ _|refine Keep.drew ?_))) (by refine vw ?_;(try simp only[dX]);first|(rw[aJ _ _ _ _ (by first|omega|(simp;omega)|(simp;done))];rfl)|(rw[dB _ _ _ (by first|omega|(simp;omega)|(simp;done))];rw[aJ _ _ _ _ (by first|omega|(simp;omega)|(simp;done))];rfl)) (by intro x hx;simp at hx;subst hx;rfl) (by rw[HLP.out];simp;omega) (SZ.out _ (by repeat(first|exact Keep.refl _ _|refine Keep.alloc ?_ _|refine Keep.drew ?_))) ?_;intro qn' kn' w4 iy hg4 ho4;rw[E4.out] at iy ho4 ⊢;have X4:=Z4.out _ w4 w4 (by repeat(first|exact Keep.refl _ _|refine Keep.alloc ?_ _|refine Keep.drew ?_)) hg4 (Keep.refl _ _);have v6:=X4.c 6 _ rfl;have vl:=X4.lt;clear X4)
    |(refine l8 (base:=w1.heap.size+1) (v:=.slice qo i ko) (us:=us) (ms:=[.slice (some ⟨g,0,none⟩) n cp]) elRow rf (.tmp 56) (.tmp 58) rf rf 1 rf rfl (OO.out _ w4 _ (by repeat(first|exact Keep.refl _ _|refine Keep.alloc ?_ _|refine Keep.drew ?_)) hg4 (by repeat(first|exact Keep.refl _ _|refine Keep.alloc ?_ _|refine Keep.drew ?_))) (by refine vw ?_;(try simp only[dX]);first|(rw[aJ _ _ _ _ (by first|omega|(simp;omega)|(simp;done))];rfl)|(refine(iF hg4).cell0 (by first|omega|(simp;omega)|(simp;done)) (NOX.out _ (by first|omega|(simp;omega)|(simp;done))) ?_;(try simp only[dX]);first|(rw[aJ _ _ _ _ (by first|omega|(simp;omega)|(simp;done))];rfl)|(rw[dB _ _ _ (by first|omega|(simp;omega)|(simp;done))];rw[aJ _ _ _ _ (by first|omega|(simp;omega)|(simp;done))];rfl))) (by intro x hx;simp at hx;subst hx;rfl) (by rw[HLU.out];simp;omega) (by have:=SZ.out _ (show Keep [] w3 _ from(by repeat(first|exact Keep.refl _ _|refine Keep.alloc ?_ _|refine Keep.drew ?_)));have:=hg4.size;have:=(show Keep [] w4 _ from(by repeat(first|exact Keep.refl _ _|refine Keep.alloc ?_ _|refine Keep.drew ?_))).size;simp at*;omega) ?_;intro qo' ko' w6 hown6 hg6 ho6;rw[E6.out] at hown6 ho6 ⊢;have X6:=Z6.out _ w4 _ w6 (by repeat(first|exact Keep.refl _ _|refine Keep.alloc ?_ _|refine Keep.drew ?_)) hg4 (by repeat(first|exact Keep.refl _ _|refine Keep.alloc ?_ _|refine Keep.drew ?_)) hg6;have s5:=X6.c 5 _ rfl;have s6:=X6.c 6 _ rfl;have f5:=X6.f 5 sI;have f6:=X6.f 6 sI;have sl:=X6.lt;clear X6))
   all_goals
    have NX:=qg.next HR.out KW hb2 hb3 HBU.out hxr g1 g2 g3 HDD.out hg HOD.out hgc hgm HX1.out HL1.out (by repeat(first|exact Keep.refl _ _|refine Keep.alloc ?_ _|refine Keep.drew ?_|refine Keep.drewN ?_ _|refine Keep.setCell ?_ (.inr (by first|omega|(simp;omega)|(simp;done))) _)) hg4 ho4 iy (by repeat(first|exact Keep.refl _ _|refine Keep.alloc ?_ _|refine Keep.drew ?_|refine Keep.drewN ?_ _|refine Keep.setCell ?_ (.inr (by first|omega|(simp;omega)|(simp;done))) _)) hg6 ho6 hown6 rfl
    clear v6 vl s5 s6 f5 f6 sl iy hown6 ho4 ho6 hg4 hg6
    have HNX:=ah NX
    clear NX
    go_wp2
    go_roundw
    case rel=>exact⟨i+1,qn',qo',kn',ko',_,_,_,om,by go_num,HNX.out⟩
    case measure=>simp[intOf];omega
  ·have ei:i=n:=by omega
   subst ei
   have Z:=ST.out.z
   have a0:=Z.c 0 _ rfl;have a1:=Z.c 1 _ rfl;have f0:=Z.f 0 sI;have f1:=Z.f 1 sI;have al:=Z.lt
   have FI:=ah (qg.fin HR.out ⟨c6,c7,c8,hhi⟩ C4'.out)
   clear Z
   have hmap:L.map (·.n)=P:=by rw[HR.out.2.1,HN.out,bg]
   have KW2:Below w.heap.size w wr:=K1.trans (hbel.mono z1)
   have HM:=ah hmap
   clear hmap
   go_wp2
   go_ret2
   exact⟨w1.heap.size,O,L,rfl,FI.out,om,HM.out,HR.out.2.2.1,fun j l D hl hD=>by rw[←HN.out];exact HR.out.2.2.2.1 j l D hl hD,gI⟩
end
end Go.Proofs.YtdcbhlcbiokbeaaGreatDoor
