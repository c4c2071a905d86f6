/- Lemmas and contracts for the claim's last text: BudW, RefU. -/
import Derived.Test.YtdcbhlcbiokbeaaGreatDoorSa01
import Derived.Test.YtdcbhlcbiokbeaaGreatDoorSa02
import Derived.Test.YtdcbhlcbiokbeaaGreatDoorSa03
import Derived.Test.YtdcbhlcbiokbeaaGreatDoorSa04
set_option linter.unusedSimpArgs false
set_option linter.unusedVariables false
set_option maxHeartbeats 16000000
set_option maxRecDepth 100000
namespace Go.Proofs.YtdcbhlcbiokbeaaGreatDoor
section
open Go.RowKit Go.Maps
theorem xU {k:Int} {F:List (Int×Int)} (h:iG k F=none):sP k F=[]:=by
 unfold iG at h
 split at h
 ·assumption
 ·cases h
theorem wB {k:Int} {F:List (Int×Int)} {x:Int×Int} (h:iG k F=some x): ∃y r,sP k F=y::r∧qp y r=x:=by
 unfold iG at h
 split at h
 ·cases h
 ·rename_i y r e
  exact⟨y,r,e,aI h⟩
theorem Cr {B:Nat} {ev:Nat→Addr} (pb:Nat) (n:Int) (bf bt:Nat) (F T:List (Int×Int)) (k:Int) (w:World) (hE:za B ev w) (hb:Bud w pb n bf bt F T) (k0:0≤k) (k6:k≤6) (h:iG k F=none):
 Calls Tryz.prog 123 #[.pointer (some ⟨pb,0,none⟩),.int .i64 k] w fun e w'=>e= .returned (.tuple #[.agg #[.int .i64 0,.int .i64 0],iP ev 5])∧Below w.heap.size w w':=by
 have hB:=hE.size
 have hmf: ∀(fn:Fn) (first cap:Array Value) (w:World),(Instr.makeFunc fn first cap).run Tryz.prog w= .ok (.func fn first cap) w:=fun _ _ _ _=>rfl
 have c1:=hb.c1
 have lp:=hb.ltp
 have HF:=ah hb.free
 have lf:=hb.ltf
 have few:=hb.free.few
 have fit:=xU h
 have FIT:=ah fit
 clear hb h fit
 go_enter Tryz.func123,Tryz.ntmps123
 go_wp2_with (go_at_call 121;refine(uN _ _ ⟨k0,k6⟩).mono ?_;rintro e w' ⟨rfl,rfl⟩)
 refine(nZ bf F _ (HF.out.below (n:=w.heap.size) gI lf)).mono ?_
 rintro e w1 ⟨v,rfl,hv⟩
 have hb1:=hv.2
 have z1:=hb1.size
 simp at z1
 have kc:w1.cell? ⟨w.heap.size,0,none⟩=some (.int .i64 k):=(hb1.cell (p:=⟨w.heap.size,0,none⟩) (by first|omega|(simp;omega)|(simp;done))).trans (by rw[dB _ _ _ (by first|omega|(simp;omega)|(simp;done)),aJ _ _ _ _ sI];rfl)
 have r0:w1.cell? ⟨w.heap.size+1,0,none⟩=some (.int .i64 0):=(hb1.cell (p:=⟨w.heap.size+1,0,none⟩) (by first|omega|(simp;omega)|(simp;done))).trans (by rw[aJ _ _ _ _ sI];rfl)
 have r1:w1.cell? ⟨w.heap.size+1,1,none⟩=some (.int .i64 0):=(hb1.cell (p:=⟨w.heap.size+1,1,none⟩) sI).trans (by rw[aJ _ _ _ _ sI];rfl)
 have f0:w1.frozen? ⟨w.heap.size+1,0,none⟩=false:=(hb1.frozen (p:=⟨w.heap.size+1,0,none⟩) sI).trans (bG _ _ _ _ sI)
 have f1:w1.frozen? ⟨w.heap.size+1,1,none⟩=false:=(hb1.frozen (p:=⟨w.heap.size+1,1,none⟩) sI).trans (bG _ _ _ _ sI)
 have hE1:za B ev w1:=hE.below gI
 have K1:Below w.heap.size w w1:=gI
 have z5:=hE1.z5
 have c5:=hE1.c5
 have HE1:=ah hE1
 have key:Calls Tryz.prog 216 #[v,wm w.heap.size] w1 fun e w'=>∃p c,e= .returned (.slice p 0 c)∧Below (w.heap.size+2) w1 w':=by
  rcases hv.mrow with⟨rfl,hnil⟩|⟨g,cap,rfl,hg0,hg,hcap,hc⟩
  ·exact(delF_nil _ _).mono fun e w' ⟨h1,h2⟩=>⟨_,_,h1,by rw[←h2];exact aK _ _⟩
  ·have hg1:w.heap.size+2≤g:=by simpa using hg0
   have hcl:w.heap.size<w1.heap.size:=om
   have hcg:w.heap.size≠g:=om
   refine(zu g cap w.heap.size k F w1 hc hg few hcap kc hcl hcg).mono fun e w' ⟨h1,_,h3⟩=> ?_
   rw[FIT.out] at h1
   exact⟨_,_,h1,h3.below om (fun s hs=>by rw[aZ.1 hs];exact hg1)⟩
 have KEY:=ah key
 clear key hv
 unfold wm at KEY
 go_wp2_with fail
 refine KEY.out.mono ?_
 rintro e w2 ⟨p,c,rfl,hb2⟩
 have z2:=hb2.size
 have c5':w2.cell? ⟨4,0,none⟩=some (iP ev 5):=(hb2.cell (p:=⟨4,0,none⟩) (show 4<w.heap.size+2 by have:=hE.z5;omega)).trans c5
 have r0':w2.cell? ⟨w.heap.size+1,0,none⟩=some (.int .i64 0):=(hb2.cell (p:=⟨w.heap.size+1,0,none⟩) sI).trans r0
 have r1':w2.cell? ⟨w.heap.size+1,1,none⟩=some (.int .i64 0):=(hb2.cell (p:=⟨w.heap.size+1,1,none⟩) sI).trans r1
 have f0':w2.frozen? ⟨w.heap.size+1,0,none⟩=false:=(hb2.frozen (p:=⟨w.heap.size+1,0,none⟩) sI).trans f0
 have f1':w2.frozen? ⟨w.heap.size+1,1,none⟩=false:=(hb2.frozen (p:=⟨w.heap.size+1,1,none⟩) sI).trans f1
 clear c5 r0 r1 f0 f1 kc
 have z5':=hE.z5
 have ne5: ¬(w.heap.size+1=4):=om
 have ne5': ¬(4=w.heap.size+1):=om
 go_wp2
 go_region
 all_goals go_wp2
 all_goals
  have e0:=gL (.int .i64 0) r0'
  have e1:=gL (w:=w2.setCell ⟨w.heap.size+1,0,none⟩ (.int .i64 0)) (.int .i64 0) ((gG _ om).trans r1')
  have e2:=(gG (w:=w2.setCell ⟨w.heap.size+1,0,none⟩ (.int .i64 0)) (g:=w.heap.size+1) (o:=1) (o':=0) (.int .i64 0) om).trans e0
  exact bodyPost_ret (v:=.tuple #[.agg #[.int .i64 0,.int .i64 0],iP ev 5]) (by simp[e0,e1,e2,results,Tryz.results123,go_sem]) rfl ⟨rfl,gI⟩
structure kV (w:World) (b:Nat) (a m:Int):Prop where
 lt:b<w.heap.size
 c0:w.cell? ⟨b,0,none⟩=some (.int .i64 a)
 c1:w.cell? ⟨b,1,none⟩=some (.int .i64 m)
 f0:w.frozen? ⟨b,0,none⟩=false
 f1:w.frozen? ⟨b,1,none⟩=false
theorem kV.keep {S:List Nat} {w w':World} {b:Nat} {a m:Int} (h:kV w b a m) (k:Keep S w w') (hb:b∉S):kV w' b a m:=
 ⟨aG h.lt k.size,(k.cell h.lt hb).trans h.c0,(k.cell h.lt hb).trans h.c1,(k.frozen h.lt hb).trans h.f0,(k.frozen h.lt hb).trans h.f1⟩
theorem kV.below {w w':World} {b:Nat} {a m:Int} (h:kV w b a m) {n:Nat} (k:Below n w w') (hb:b<n):kV w' b a m:=
 ⟨aG h.lt k.size,(k.cell (p:=⟨b,0,none⟩) hb).trans h.c0,(k.cell (p:=⟨b,1,none⟩) hb).trans h.c1,(k.frozen (p:=⟨b,0,none⟩) hb).trans h.f0,(k.frozen (p:=⟨b,1,none⟩) hb).trans h.f1⟩
theorem kV.new (w:World) (a m:Int) (t:TypeId):kV (w.alloc (.cells #[.int .i64 a,.int .i64 m] t)) w.heap.size a m:=
 ⟨sI,by rw[aJ _ _ _ _ sI];rfl,by rw[aJ _ _ _ _ sI];rfl,bG _ _ _ _ sI,bG _ _ _ _ sI⟩
theorem kV.store {w:World} {b:Nat} {a m:Int} (h:kV w b a m) (a' m':Int):kV ((w.setCell ⟨b,0,none⟩ (.int .i64 a')).setCell ⟨b,1,none⟩ (.int .i64 m')) b a' m':=by
 have e0:=gL (.int .i64 a') h.c0
 exact⟨by simpa[World.setCell] using h.lt,(gG (.int .i64 m') om).trans e0,gL _ ((gG _ om).trans h.c1),by rw[gK,gK];exact h.f0,by rw[gK,gK];exact h.f1⟩
theorem Keep.j4 {S:List Nat} {w0 w:World} {b:Nat} (h:Keep S w0 w) (hb:b∈S∨w0.heap.size≤b) (u v:Value):Keep S w0 ((w.setCell ⟨b,0,none⟩ u).setCell ⟨b,1,none⟩ v):=(h.setCell (p:=⟨b,0,none⟩) hb u).setCell (p:=⟨b,1,none⟩) hb v
theorem Ap {k m:Int} {a:Int} {F:List (Int×Int)} (h:k<m):kZ (m-k).toNat a k F=kZ (m-1-k).toNat a k (ji (a+sz (m-1)) (m-1) F):=by
 obtain⟨d,hd⟩: ∃d,(m-k).toNat=d+1:=⟨(m-k).toNat-1,om⟩
 have e1:(m-1-k).toNat=d:=om
 have e2:k+(d:Int)=m-1:=om
 rw[hd,e1,kZ,e2]
theorem jU.down0 {n:Int} {F T:List (Int×Int)} {a k:Int} (h:jU n F T (a,k)):Af a k=0↔k≠0:=by
 obtain⟨b0,b1,b2,b3⟩:=h.blk
 have bn:=h.t.bound (aD ..)
 have:=iO k
 have:=h.n2
 simp only at b0 b1 b2 b3 bn
 have ha:iM a k=0:=vQ b0 om b1 b2 b3
 exact⟨fun q=>(tu q).2,fun q=>downE_mk ha q⟩
theorem take_ok {B:Nat} {ev:Nat→Addr} (pb:Nat) (n:Int) (bf bt:Nat) (F T:List (Int×Int)) (k:Int) (x:Int×Int) (w:World) (hE:jV B ev w) (hBf:B≤bf) (hb:Bud w pb n bf bt F T) (hI:Inv n F T) (k0:0≤k) (k6:k≤6) (h:iG k F=some x):
 Calls Tryz.prog 123 #[.pointer (some ⟨pb,0,none⟩),.int .i64 k] w fun e w'=>e= .returned (.tuple #[.agg #[.int .i64 x.1,.int .i64 k],.nilIface])∧Bud w' pb n bf bt (kQ k x F) (ji x.1 k T)∧Keep [bf,bt] w w':=by
 have hB:=hE.size
 have hmf: ∀(fn:Fn) (first cap:Array Value) (w:World),(Instr.makeFunc fn first cap).run Tryz.prog w= .ok (.func fn first cap) w:=fun _ _ _ _=>rfl
 have c1:=hb.c1
 have lp:=hb.ltp
 have lf:=hb.ltf
 have lt:=hb.ltt
 have few:=hb.free.few
 obtain⟨y,r,hfit,hmin⟩:=wB h
 obtain⟨hxF,hkx⟩:=iR h
 have hIH:=hI.hand hxF
 have hfin:=hI.take k0 h
 have hrx:=hI.BG hxF
 have FIT:=ah hfit;have MIN:=ah hmin;have IH:=ah hIH;have HB:=ah hb;have HI:=ah hI;have FIN:=ah hfin;have XF:=ah hxF
 have hfl:(sP k F).length≤256:=cZ (List.length_filter_le _ _) few
 rw[hfit] at hfl
 clear hb h hfit hmin hIH hfin hI hxF
 go_enter Tryz.func123,Tryz.ntmps123
 go_wp2_with (go_at_call 121;refine(uN _ _ ⟨k0,k6⟩).mono ?_;rintro e w' ⟨rfl,rfl⟩)
 refine(nZ bf F _ (HB.out.free.below (n:=w.heap.size) gI lf)).mono ?_
 rintro e w1 ⟨v,rfl,hv⟩
 have hb1:=hv.2
 have z1:=hb1.size
 simp at z1
 have kc:w1.cell? ⟨w.heap.size,0,none⟩=some (.int .i64 k):=(hb1.cell (p:=⟨w.heap.size,0,none⟩) (by first|omega|(simp;omega)|(simp;done))).trans (by rw[dB _ _ _ (by first|omega|(simp;omega)|(simp;done)),aJ _ _ _ _ sI];rfl)
 have r0:w1.cell? ⟨w.heap.size+1,0,none⟩=some (.int .i64 0):=(hb1.cell (p:=⟨w.heap.size+1,0,none⟩) (by first|omega|(simp;omega)|(simp;done))).trans (by rw[aJ _ _ _ _ sI];rfl)
 have r1:w1.cell? ⟨w.heap.size+1,1,none⟩=some (.int .i64 0):=(hb1.cell (p:=⟨w.heap.size+1,1,none⟩) (by first|omega|(simp;omega)|(simp;done))).trans (by rw[aJ _ _ _ _ sI];rfl)
 have f0:w1.frozen? ⟨w.heap.size+1,0,none⟩=false:=(hb1.frozen (p:=⟨w.heap.size+1,0,none⟩) sI).trans (bG _ _ _ _ sI)
 have f1:w1.frozen? ⟨w.heap.size+1,1,none⟩=false:=(hb1.frozen (p:=⟨w.heap.size+1,1,none⟩) sI).trans (bG _ _ _ _ sI)
 have K1:Keep [] w w1:=Keep.of (gI)
 have key: ∃g cap,w.heap.size+2≤g∧Calls Tryz.prog 216 #[v,wm w.heap.size] w1 fun e w'=>e= .returned (.slice (some ⟨g,0,none⟩) (y::r).length cap)∧r9 w' g (y::r)∧Keep [g] w1 w'∧g<w'.heap.size:=by
  rcases hv.mrow with⟨rfl,hnil⟩|⟨g,cap,rfl,hg0,hg,hcap,hc⟩
  ·have:=XF.out
   rw[hnil] at this
   cases this
  ·have hg1:w.heap.size+2≤g:=by simpa using hg0
   have hcl:w.heap.size<w1.heap.size:=om
   have hcg:w.heap.size≠g:=om
   refine⟨g,cap,hg1,(zu g cap w.heap.size k F w1 hc hg few hcap kc hcl hcg).mono fun e w' ⟨h1,h2,h3⟩=> ?_⟩
   rw[FIT.out] at h1 h2
   exact⟨h1,h2,h3,by have:=h3.size;omega⟩
 obtain⟨g,cap,hg,key⟩:=key
 have KEY:=ah key
 clear key hv XF FIT
 unfold wm at KEY
 obtain⟨m,hm⟩: ∃m,m=(y::r).length:=⟨_,rfl⟩
 have hm1:1≤m:=by rw[hm];simp
 rw[←hm] at KEY hfl
 have hm0:((m:Int)==0)=false:=beq_eq_false_iff_ne.2 om
 have HM:=ah hm
 clear hm
 go_wp2_with fail
 refine KEY.out.mono ?_
 rintro e w2 ⟨rfl,row2,hk2,hg2⟩
 have z2:=hk2.size
 have r0':=(hk2.cell (b:=w.heap.size+1) (o:=0) (by first|omega|(simp;omega)|(simp;done)) (by simp;omega)).trans r0
 have r1':=(hk2.cell (b:=w.heap.size+1) (o:=1) (by first|omega|(simp;omega)|(simp;done)) (by simp;omega)).trans r1
 have f0':=(hk2.frozen (b:=w.heap.size+1) (o:=0) (by first|omega|(simp;omega)|(simp;done)) (by simp;omega)).trans f0
 have f1':=(hk2.frozen (b:=w.heap.size+1) (o:=1) (by first|omega|(simp;omega)|(simp;done)) (by simp;omega)).trans f1
 have kc':=(hk2.cell (b:=w.heap.size) (o:=0) (by first|omega|(simp;omega)|(simp;done)) (by simp;omega)).trans kc
 have K2:Keep [] w w2:=K1.trans hk2 (fun s hs=>.inr (by rw[aZ.1 hs];omega))
 have MF:=ah (minF_any g cap y r w2 row2 hg2 (by rw[←HM.out];exact hfl))
 rw[←HM.out,MIN.out] at MF
 clear kc r0 r1 f0 f1 hk2 row2
 go_wp2_with fail
 refine MF.out.mono ?_
 rintro e w3 ⟨rfl,hb3⟩
 clear MF hm0
 have z3:=hb3.size
 have K3:Keep [] w w3:=K2.step hb3
 have r0:=(hb3.cell (p:=⟨w.heap.size+1,0,none⟩) (by first|omega|(simp;omega)|(simp;done))).trans r0'
 have r1:=(hb3.cell (p:=⟨w.heap.size+1,1,none⟩) (by first|omega|(simp;omega)|(simp;done))).trans r1'
 have f0:=(hb3.frozen (p:=⟨w.heap.size+1,0,none⟩) (by first|omega|(simp;omega)|(simp;done))).trans f0'
 have f1:=(hb3.frozen (p:=⟨w.heap.size+1,1,none⟩) (by first|omega|(simp;omega)|(simp;done))).trans f1'
 have kc:=(hb3.cell (p:=⟨w.heap.size,0,none⟩) (by first|omega|(simp;omega)|(simp;done))).trans kc'
 clear r0' r1' f0' f1' kc'
 obtain⟨a,m0⟩:=x
 simp only at hrx hkx
 have L1:kV w3 (w.heap.size+1) 0 0:=⟨om,r0,r1,f0,f1⟩
 have HL1:=ah L1
 have lp3:pb<w3.heap.size:=om
 have c1':=(K3.cell (o:=1) lp sI).trans c1
 have ka:Keep [] w3 ((w3.alloc (.cells #[.int .i64 a,.int .i64 m0] 59)).drew):=((Keep.refl _ _).alloc _).drew
 have M3:qw ((w3.alloc (.cells #[.int .i64 a,.int .i64 m0] 59)).drew) bf F:=(HB.out.free.keep K3 sI).keep ka sI
 obtain⟨w4,hrun,hdrop,hturn⟩:=M3.drop (a:=a) (rA hrx.1 hrx.2.1) 0
 have ne3:bf≠w3.heap.size:=om
 have ne1:bf≠w.heap.size:=om
 have ne2:bf≠w.heap.size+1:=om
 have k34:Keep [bf] w3 w4:=(ka.mono (fun s q=>by cases q)).grown hturn.grown (.inl sI)
 have kb4:Keep [bf] ((w3.alloc (.cells #[.int .i64 a,.int .i64 m0] 59)).drew) w4:=(Keep.refl _ _).grown hturn.grown (.inl sI)
 have D:=ah hdrop
 have X4:=ah (((kV.new w3 a m0 59).keep (Keep.drew (Keep.refl [] _)) sI).keep kb4 (by simpa using ne3.symm))
 have R4:=ah (L1.keep k34 (by simpa using ne2.symm))
 have O4:=ah ((k34.cell (b:=w.heap.size) (o:=0) om (by simpa using ne1.symm)).trans kc)
 have B4:=ah ((HB.out.keep K3 sI sI sI).xS hdrop k34)
 have K4:Keep [bf] w w4:=(K3.mono (fun s q=>by cases q)).then k34
 clear hdrop hturn L1 r0 r1 f0 f1 kb4 M3 ka
 go_wp2_with fail
 refine iK 6 kR kR ?_
 simp only[aO,aX,aP,aV]
 repeat still_step
 refine wpStill_nil ?_
 go_wp2
 clear hrun kc c1' c1
 have z4:=k34.size
 have IH4:=ah (show jU n (iV a F) T (a,m0) from IH.out)
 have DF4:=ah (show kZ (m0-k).toNat a k (iV a F)=kQ k (a,m0) F from rfl)
 clear IH k34 HL1
 go_loopg [10,11,12] 7 (fun gg _ _ _ wr=>∃(q:Int) (F':List (Int×Int)),(q-k).toNat<gg∧k≤q∧q≤6∧Hid (Bud wr pb n bf bt F' T)∧Hid (jU n F' T (a,q))∧Hid (kZ (q-k).toNat a k F'=kQ k (a,m0) F)∧Hid (kV wr w3.heap.size a q)∧Hid (kV wr (w.heap.size+1) 0 0)
  ∧Hid (wr.cell? ⟨w.heap.size,0,none⟩=some (.int .i64 k))∧Keep [bf] w wr∧w3.heap.size<wr.heap.size)
 case atStart=>exact⟨m0,iV a F,om,hkx,om,B4,IH4,DF4,X4,R4,O4,K4,X4.out.lt⟩
 case round=>
  obtain⟨q,F',hgg,hkq,hq6,HBr,IHr,DFr,Xr,Rr,Or,Kr,zr⟩:=hrel
  clear B4 IH4 DF4 X4 R4 O4 K4
  have x0:=Xr.out.c0;have x1:=Xr.out.c1
  have o0:=Or.out
  by_cases hlt:k<q
  ·have hcut:=jU.cut (n:=n) (F:=F') (T:=T) (a:=a) (k:=q-1) om (by rw[show q-1+1=q by omega];exact IHr.out)
   have hdn:=(jU.down0 IHr.out).2 om
   have hEr:jV B ev wr:=hE.below (Kr.below (B:=B) om (fun s hs=>by rw[aZ.1 hs];exact hBf))
   have hrg:=hcut.rng (p:=(a+sz (q-1),q-1)) (aj _ (av _ ((qC IHr.out.fa).2 (.inl rfl))))
   have hln:=iT hcut.fa (fun p hp=>hcut.rng (aj _ (av _ hp)))
   have CUT:=ah hcut
   have HO:=ah (C8 a q wr hEr hdn)
   clear hcut hdn hEr
   go_wp2_with fail
   refine HO.out.mono ?_
   rintro e w5 ⟨rfl,hb5⟩
   clear HO
   have z5:=hb5.size
   have q1:=(hb5.cell (p:=⟨pb,1,none⟩) (show pb<wr.heap.size by omega)).trans HBr.out.c1
   have lp5:pb<w5.heap.size:=om
   have ka:Keep [] w5 (((w5.alloc (.cells #[.int .i64 a,.int .i64 (q-1)] 59)).alloc (.cells #[.int .i64 (a+sz (q-1)),.int .i64 (q-1)] 59)).drew):=(((Keep.refl _ _).alloc _).alloc _).drew
   have kr5:Keep [] wr w5:=Keep.of hb5
   have B5:=HBr.out.keep kr5 sI sI sI
   obtain⟨w7,hrun,hput,hgr⟩:=(B5.free.keep ka sI).put hrg hln
   have k57:Keep [bf] w5 w7:=(ka.mono (fun s q=>by cases q)).grown hgr (.inl sI)
   have z7:=k57.size
   have kl:Keep [bf] (((w5.alloc (.cells #[.int .i64 a,.int .i64 (q-1)] 59)).alloc (.cells #[.int .i64 (a+sz (q-1)),.int .i64 (q-1)] 59)).drew) w7:=(Keep.refl _ _).grown hgr (.inl sI)
   have nl:w5.heap.size≠bf:=om
   have LO:=((kV.new w5 a (q-1) 59).keep (((Keep.refl [] _).alloc (.cells #[.int .i64 (a+sz (q-1)),.int .i64 (q-1)] 59)).drew) sI).keep kl (by simpa using nl)
   have l0:=LO.c0;have l1:=LO.c1
   have kr7:Keep [bf] wr w7:=(kr5.mono (fun s q=>by cases q)).then k57
   have X7:=Xr.out.keep kr7 (by simpa using ne3.symm)
   have R7:=Rr.out.keep kr7 (by simpa using ne2.symm)
   have x2:=X7.c0;have x3:=X7.c1;have x4:=X7.f0;have x5:=X7.f1
   have B7:=B5.xS hput k57
   have O7:=(kr7.cell (b:=w.heap.size) (o:=0) om (by simpa using ne1.symm)).trans o0
   have np:pb≠w3.heap.size:=om
   have nt':bt≠w3.heap.size:=om
   have nw1:w.heap.size≠w3.heap.size:=om
   have nw2:w.heap.size+1≠w3.heap.size:=om
   have ks:Keep [w3.heap.size] w7 ((w7.setCell ⟨w3.heap.size,0,none⟩ (.int .i64 a)).setCell ⟨w3.heap.size,1,none⟩ (.int .i64 (q-1))):=(Keep.refl _ _).j4 (.inl sI) _ _
   have B8:=ah (B7.keep ks (by simpa using np) (by simpa using ne3) (by simpa using nt'))
   have X8:=ah (X7.store a (q-1))
   have R8:=ah (R7.keep ks (by simpa using nw2))
   have O8:=ah ((ks.cell (b:=w.heap.size) (o:=0) om (by simpa using nw1)).trans O7)
   have K8:=ah ((Kr.then kr7).j4 (b:=w3.heap.size) (.inr om) (.int .i64 a) (.int .i64 (q-1)))
   clear hput hgr ka kr5 B5 k57 kl LO kr7 X7 R7 B7 O7 ks o0 x0 x1 hrg hln
   go_wp2_with fail
   refine iK 8 kR kR ?_
   simp only[aO,aX,aP,aV]
   repeat still_step
   refine wpStill_nil ?_
   go_wp2
   go_roundg ((q-1-k).toNat+1)
   case measure=>omega
   case rel=>exact⟨q-1,_,om,om,om,B8,CUT,by rw[←DFr.out,Ap hlt];rfl,X8,R8,O8,K8.out,by simp[World.setCell];omega⟩
  ·have eq:q=k:=by omega
   subst eq
   have hput:=IHr.out
   have e0:(q-q).toNat=0:=om
   have hF:F'=kQ q (a,m0) F:=by have:=DFr.out;rwa [e0] at this
   have br:=HBr.out
   have c2:=br.c2
   have lpr:pb<wr.heap.size:=om
   have ka:Keep [] wr wr.drew:=(Keep.refl _ _).drew
   have hrg:=hput.rng (p:=(a,q)) (aD ..)
   have hln:=iT hput.putT.ta (fun p hp=>hput.putT.rngT hp)
   obtain⟨w7,hrun,hpt,hgr⟩:=(br.taken.keep ka sI).put hrg hln
   have k7:Keep [bt] wr w7:=(ka.mono (fun s q=>by cases q)).grown hgr (.inl sI)
   have nt1:w3.heap.size≠bt:=om
   have nt2:w.heap.size+1≠bt:=om
   have X7:=Xr.out.keep k7 (by simpa using nt1)
   have R7:=Rr.out.keep k7 (by simpa using nt2)
   have x2:=X7.c0;have x3:=X7.c1
   have y0:=R7.c0;have y1:=R7.c1;have y2:=R7.f0;have y3:=R7.f1
   have B7:=br.turnT hpt k7
   have K7:Keep [bf,bt] w w7:=(Kr.mono (fun s hs=>by simp at hs ⊢;exact .inl hs)).then (k7.mono (fun s hs=>by simp at hs ⊢;exact .inr hs))
   have np:pb≠w.heap.size+1:=om
   have nf:bf≠w.heap.size+1:=om
   have nt':bt≠w.heap.size+1:=om
   have ks:Keep [w.heap.size+1] w7 ((w7.setCell ⟨w.heap.size+1,0,none⟩ (.int .i64 a)).setCell ⟨w.heap.size+1,1,none⟩ (.int .i64 q)):=(Keep.refl _ _).j4 (.inl sI) _ _
   have B8:=B7.keep ks (by simpa using np) (by simpa using nf) (by simpa using nt')
   rw[hF] at B8
   have HB8:=ah B8
   have R8:=R7.store a q
   have rc0:=R8.c0;have rc1:=R8.c1
   have K8:=ah (K7.j4 (b:=w.heap.size+1) (.inr om) (.int .i64 a) (.int .i64 q))
   have RR:=ah R8
   clear hput hF br hrg hln hpt hgr k7 X7 R7 B7 K7 ks B8 ka R8
   have hnlt: ¬q<q:=om
   go_wp2_with fail
   refine iK 8 kR kR ?_
   simp only[aO,aX,aP,aV]
   repeat still_step
   refine wpStill_nil ?_
   go_wp2
   have e0:=gL (.int .i64 a) y0
   exact bodyPost_ret (v:=.tuple #[.agg #[.int .i64 a,.int .i64 q],.nilIface]) (by simp[e0,rc0,rc1,results,Tryz.results123,go_sem]) rfl ⟨rfl,HB8.out,K8.out⟩
end
section
open Go.RowKit Go.Maps
theorem Ct {B:Nat} {ev:Nat→Addr} (pb:Nat) (n:Int) (bf bt:Nat) (F T:List (Int×Int)) (a k:Int) (w:World) (hE:jV B ev w) (hb:Bud w pb n bf bt F T) (ha:(Lit.int .i64 a).wf=true) (h:hasL T a k=false):
 Calls Tryz.prog 227 #[.pointer (some ⟨pb,0,none⟩),.agg #[.int .i64 a,.int .i64 k]] w fun e w'=>e= .returned (iP ev 4)∧Below w.heap.size w w':=by
 have hB:=hE.size
 have lp:=hb.ltp
 have bud:Bud (w.alloc (.cells #[.int .i64 a,.int .i64 k] 59)) pb n bf bt F T:=hb.below gI
 have HH:=ah (has_ok pb n bf bt F T a k _ bud ha (by first|omega|(simp;omega)|(simp;done)))
 rw[h] at HH
 clear hb ha h bud
 go_enter Tryz.func227,Tryz.ntmps227
 go_wp2_with fail
 refine HH.out.mono ?_
 rintro e w1 ⟨rfl,hb1⟩
 have z1:=hb1.size
 simp at z1
 have hE1:jV B ev w1:=hE.below gI
 have c4:=hE1.c4
 have z4:=hE1.z4
 go_wp2
 go_ret
 exact⟨rfl,gI⟩
theorem hasL_mem {T:List (Int×Int)} {a k:Int} (hA:Asc T):hasL T a k=true↔(a,k)∈T:=by
 unfold hasL
 rw[qP hA]
 simp
theorem upF_stop {a k:Int} {F:List (Int×Int)} (k0:0≤k) (k6:k≤6) (h:k<6→jK F (j3 a k)≠some k):upF (6-k).toNat a k F=((a,k),F):=by
 by_cases e:k=6
 ·subst e;rfl
 ·obtain⟨d,hd⟩: ∃d,(6-k).toNat=d+1:=⟨(6-k).toNat-1,om⟩
  rw[hd,upF,if_neg (h om)]
theorem upF_go {a k:Int} {F:List (Int×Int)} (k6:k<6) (h:jK F (j3 a k)=some k):upF (6-k).toNat a k F=upF (6-(k+1)).toNat (kE a k) (k+1) (iV (j3 a k) F):=by
 obtain⟨d,hd⟩: ∃d,(6-k).toNat=d+1:=⟨(6-k).toNat-1,om⟩
 have e:(6-(k+1)).toNat=d:=om
 rw[hd,upF,if_pos h,e]
def upP (a k:Int) (F:List (Int×Int)):List (Int×Int):=ji (upF (6-k).toNat a k F).1.1 (upF (6-k).toNat a k F).1.2 (upF (6-k).toNat a k F).2
theorem o8 {a k:Int} {F:List (Int×Int)} (k0:0≤k) (k6:k≤6) (h:k<6→jK F (j3 a k)≠some k):upP a k F=ji a k F:=by unfold upP;rw[upF_stop k0 k6 h]
theorem upP_go {a k:Int} {F:List (Int×Int)} (k6:k<6) (h:jK F (j3 a k)=some k):upP a k F=upP (kE a k) (k+1) (iV (j3 a k) F):=by unfold upP;rw[upF_go k6 h]
theorem give_ok {B:Nat} {ev:Nat→Addr} (pb:Nat) (n:Int) (bf bt:Nat) (F T:List (Int×Int)) (a k:Int) (w:World) (hE:jV B ev w) (hBf:B≤bf) (hBt:B≤bt) (hb:Bud w pb n bf bt F T) (hI:Inv n F T) (hx:(a,k)∈T):
 Calls Tryz.prog 227 #[.pointer (some ⟨pb,0,none⟩),.agg #[.int .i64 a,.int .i64 k]] w fun e w'=>e= .returned .nilIface∧Bud w' pb n bf bt (sQ a k F) (iV a T)∧Keep [bf,bt] w w':=by
 have hB:=hE.size
 have lp:=hb.ltp
 have lf:=hb.ltf
 have lt:=hb.ltt
 have hrx:=hI.rngT hx
 simp only at hrx
 have ha:=rA hrx.1 hrx.2.1
 have bud:Bud (w.alloc (.cells #[.int .i64 a,.int .i64 k] 59)) pb n bf bt F T:=hb.below gI
 have HH:=ah (has_ok pb n bf bt F T a k _ bud ha (by first|omega|(simp;omega)|(simp;done)))
 rw[(hasL_mem hI.ta).2 hx] at HH
 have BU:=ah bud
 have ih:=ah (hI.handT hx)
 have GF:=ah (show upP a k F=sQ a k F from rfl)
 clear hb hI hx bud
 go_enter Tryz.func227,Tryz.ntmps227
 go_wp2_with fail
 refine HH.out.mono ?_
 rintro e w1 ⟨rfl,hb1⟩
 clear HH
 have z1:=hb1.size
 simp at z1
 have K1:Keep [] w w1:=Keep.of gI
 have B1:=BU.out.below hb1
 have c2:=B1.c2
 have X1:=(kV.new w a k 59).below hb1 sI
 have x0:=X1.c0
 have ka:Keep [] w1 w1.drew:=(Keep.refl _ _).drew
 have lp1:pb<w1.heap.size:=om
 obtain⟨w2,hrun,hdrop,hturn⟩:=(B1.taken.keep ka sI).drop (a:=a) ha 0
 have k12:Keep [bt] w1 w2:=(ka.mono (fun s q=>by cases q)).grown hturn.grown (.inl sI)
 have B2:=ah (B1.turnT hdrop k12)
 have nt1:w.heap.size≠bt:=om
 have nf1:w.heap.size≠bf:=om
 have X2:=ah (X1.keep k12 (by simpa using nt1))
 have K2:Keep [bf,bt] w w2:=(K1.mono (fun s q=>by cases q)).then (k12.mono (fun s hs=>by simp at hs ⊢;exact .inr hs))
 clear hdrop hturn k12 B1 X1 ka K1
 go_wp2_with fail
 refine iK 6 kR kR ?_
 simp only[aO,aX,aP,aV]
 repeat still_step
 refine wpStill_nil ?_
 go_wp2
 clear hrun c2 x0
 go_loopg [5,6,7,8] 8 (fun gg _ _ _ _ wr=>∃(q p:Int) (F':List (Int×Int)),(6-q).toNat<gg∧0≤q∧q≤6∧0≤p∧p<256∧Hid (Bud wr pb n bf bt F' (iV a T))∧Hid (jU n F' (iV a T) (p,q))∧Hid (upP p q F'=sQ a k F)∧Hid (kV wr w.heap.size p q)∧Keep [bf,bt] w wr∧w.heap.size<wr.heap.size)
 case atStart=>exact⟨k,a,F,om,om,om,om,om,B2,ih,GF,X2,K2,X2.out.lt⟩
 case round=>
  obtain⟨q,p,F',hgg,q0,q6,p0,p256,HBr,IHr,DFr,Xr,Kr,zr⟩:=hrel
  clear B2 ih GF X2 K2
  have x0:=Xr.out.c0;have x1:=Xr.out.c1
  have hblk:=IHr.out.blk
  have al:iM p q=0:=vQ p0 om q0 q6 hblk.2.2.2
  have hEr:jV B ev wr:=hE.below (Kr.below (B:=B) om (fun s hs=>by simp at hs;rcases hs with rfl|rfl;(·exact hBf);(·exact hBt)))
  have zrw:=Kr.size
  clear hblk
  by_cases h6:q=6
  ·have HNO:Hid (q<6→jK F' (j3 p q)≠some q):=fun h=>absurd h om
   have HO:=ah (BZ p q 3 wr hEr (by unfold upE;rw[if_pos al,if_pos h6]))
   clear hEr al h6
   go_wp2_with fail
   refine HO.out.mono ?_
   rintro e w5 ⟨rfl,hb5⟩
   clear HO
   have z5:=hb5.size
   have c1:=(hb5.cell (p:=⟨pb,1,none⟩) (show pb<wr.heap.size by omega)).trans HBr.out.c1
   have lp5:pb<w5.heap.size:=om
   have lk:=fun m=>mM (((HBr.out.free.keep (Keep.of (S:=[]) hb5) sI).keep (((Keep.refl [] _).alloc (.cells #[.int .i64 0,.int .i64 0] 59)).drewN m) sI)) (a:=0) (rA om om)
   go_wp2
   go_quiet (fail)
   have Bn:=HBr.out.keep (Keep.of (S:=[]) hb5) sI sI sI
   have ky:Keep [] w5 ((((w5.alloc (.cells #[.int .i64 0,.int .i64 0] 59)).drewN (nq+1)))):=((Keep.refl _ _).alloc _).drewN _
   have hput:=IHr.out
   have hfin:=hput.putF HNO.out
   obtain⟨w7,hrun,hpt,hgr⟩:=(Bn.free.keep ky sI).put (hput.rng (aD ..)) (iT hfin.fa (fun z hz=>hfin.BG hz))
   have k57:Keep [bf] w5 w7:=(ky.mono (fun s q=>by cases q)).grown hgr (.inl sI)
   have B7:=Bn.xS hpt k57
   rw[←o8 q0 q6 HNO.out,DFr.out] at B7
   have HB7:=ah B7
   have K7:Keep [bf,bt] w w7:=(Kr.step hb5).then (k57.mono (fun s hs=>by simp at hs ⊢;exact .inl hs))
   have HK7:=ah K7
   have c1:=Bn.c1
   have lp5:pb<w5.heap.size:=om
   have s0:=(hb5.cell (p:=⟨w.heap.size,0,none⟩) zr).trans x0
   have s1:=(hb5.cell (p:=⟨w.heap.size,1,none⟩) zr).trans x1
   have lw5:w.heap.size<w5.heap.size:=om
   clear hput hfin hpt hgr k57 B7 K7 ky Bn
   go_wp2
   refine iK 8 kR kR ?_
   simp only[aO,aX,aP,aV]
   repeat still_step
   refine wpStill_nil ?_
   go_wp2
   go_ret
   exact⟨rfl,HB7.out,HK7.out⟩
  ·have kb:0≤j3 p q∧j3 p q<256:=by
    obtain⟨⟨u1,u2,_⟩,_⟩:=kin p0 om q0 om (jT al).2.2.2.2
    omega
   cases hg:jK F' (j3 p q) with
   |none=>
    have HNO:Hid (q<6→jK F' (j3 p q)≠some q):=fun _ e=>by rw[hg] at e;cases e
    have HO:=ah (uO p q wr hEr (yN al om))
    clear hEr al
    go_wp2_with fail
    refine HO.out.mono ?_
    rintro e w5 ⟨rfl,hb5⟩
    clear HO
    have z5:=hb5.size
    have c1:=(hb5.cell (p:=⟨pb,1,none⟩) (show pb<wr.heap.size by omega)).trans HBr.out.c1
    have lp5:pb<w5.heap.size:=om
    have lk:=fun m=>mM (((HBr.out.free.keep (Keep.of (S:=[]) hb5) sI).keep (((Keep.refl [] _).alloc (.cells #[.int .i64 (j3 p q),.int .i64 q] 59)).drewN m) sI)) (a:=j3 p q) (rA kb.1 kb.2)
    rw[hg] at lk
    simp only[Option.getD_none,Option.isSome_none] at lk
    clear hg kb h6
    go_wp2
    go_quiet (fail)
    have Bn:=HBr.out.keep (Keep.of (S:=[]) hb5) sI sI sI
    have ky:Keep [] w5 ((((w5.alloc (.cells #[.int .i64 (j3 p q),.int .i64 q] 59)).drewN (nq+1)))):=((Keep.refl _ _).alloc _).drewN _
    have hput:=IHr.out
    have hfin:=hput.putF HNO.out
    obtain⟨w7,hrun,hpt,hgr⟩:=(Bn.free.keep ky sI).put (hput.rng (aD ..)) (iT hfin.fa (fun z hz=>hfin.BG hz))
    have k57:Keep [bf] w5 w7:=(ky.mono (fun s q=>by cases q)).grown hgr (.inl sI)
    have B7:=Bn.xS hpt k57
    rw[←o8 q0 q6 HNO.out,DFr.out] at B7
    have HB7:=ah B7
    have K7:Keep [bf,bt] w w7:=(Kr.step hb5).then (k57.mono (fun s hs=>by simp at hs ⊢;exact .inl hs))
    have HK7:=ah K7
    have c1:=Bn.c1
    have lp5:pb<w5.heap.size:=om
    have s0:=(hb5.cell (p:=⟨w.heap.size,0,none⟩) zr).trans x0
    have s1:=(hb5.cell (p:=⟨w.heap.size,1,none⟩) zr).trans x1
    have lw5:w.heap.size<w5.heap.size:=om
    clear hput hfin hpt hgr k57 B7 K7 ky Bn
    go_wp2
    refine iK 8 kR kR ?_
    simp only[aO,aX,aP,aV]
    repeat still_step
    refine wpStill_nil ?_
    go_wp2
    go_ret
    exact⟨rfl,HB7.out,HK7.out⟩
   |some k2=>
    by_cases hk2:k2=q
    ·subst hk2
     have hup:=IHr.out.up om hg
     have DF2:=ah ((upP_go om hg).symm.trans DFr.out)
     have UP:=ah hup
     have al2:=al
     have kpp:=kin_p p0 om q0 om (jT al).2.2.2.2
     have hub:=hup.rng (aD ..)
     simp only at hub
     have HO:=ah (uO p k2 wr hEr (yN al om))
     clear hEr al
     go_wp2_with fail
     refine HO.out.mono ?_
     rintro e w5 ⟨rfl,hb5⟩
     clear HO
     have z5:=hb5.size
     have c1:=(hb5.cell (p:=⟨pb,1,none⟩) (show pb<wr.heap.size by omega)).trans HBr.out.c1
     have lp5:pb<w5.heap.size:=om
     have lk:=fun m=>mM (((HBr.out.free.keep (Keep.of (S:=[]) hb5) sI).keep (((Keep.refl [] _).alloc (.cells #[.int .i64 (j3 p k2),.int .i64 k2] 59)).drewN m) sI)) (a:=j3 p k2) (rA kb.1 kb.2)
     rw[hg] at lk
     simp only[fE,fM] at lk
     have hne:(k2 !=k2)=false:=sI
     clear hg h6 hup
     go_wp2
     go_quiet (fail)
     have Bn:=HBr.out.keep (Keep.of (S:=[]) hb5) sI sI sI
     have ky:Keep [] w5 ((w5.alloc (.cells #[.int .i64 (j3 p k2),.int .i64 k2] 59)).drewN (nq+1)):=((Keep.refl _ _).alloc _).drewN _
     obtain⟨w7,hrun,hpt,hturn⟩:=(Bn.free.keep ky sI).drop (a:=j3 p k2) (rA kb.1 kb.2) 0
     have k57:Keep [bf] w5 w7:=(ky.mono (fun s q=>by cases q)).grown hturn.grown (.inl sI)
     have B7:=Bn.xS hpt k57
     have k7r:Keep [bf,bt] w w7:=(Kr.step hb5).then (k57.mono (fun s hs=>by simp at hs ⊢;exact .inl hs))
     have kr7:Keep [bf] wr w7:=(Keep.of hb5).then k57
     have X7:=Xr.out.keep kr7 (by simpa using nf1)
     have hE7:jV B ev w7:=hE.below (k7r.below (B:=B) om (fun s hs=>by simp at hs;rcases hs with rfl|rfl;(·exact hBf);(·exact hBt)))
     have s0:=X7.c0;have s1:=X7.c1
     have z7:=k57.size
     have HB7:=ah B7;have HX7:=ah X7;have K7:=ah k7r
     have PO:=ah (vZ p k2 w7 hE7 (yN al2 om))
     have lw5:w.heap.size<w5.heap.size:=om
     clear hpt hturn k57 B7 k7r kr7 X7 ky Bn hE7 kb lk x0 x1
     go_wp2
     refine iK 6 kR kR ?_
     simp only[aO,aX,aP,aV]
     repeat still_step
     refine wpStill_nil ?_
     go_wp2_with fail
     refine PO.out.mono ?_
     rintro e w8 ⟨rfl,hb8⟩
     have z8:=hb8.size
     have X8:=HX7.out.below hb8 (show w.heap.size<w7.heap.size by omega)
     have t0:=X8.c0;have t1:=X8.c1;have t2:=X8.f0;have t3:=X8.f1
     have ks:Keep [w.heap.size] w8 ((w8.setCell ⟨w.heap.size,0,none⟩ (.int .i64 (kE p k2))).setCell ⟨w.heap.size,1,none⟩ (.int .i64 (k2+1))):=(Keep.refl _ _).j4 (.inl sI) _ _
     have np:pb≠w.heap.size:=om
     have B8:=ah ((HB7.out.below hb8).keep ks (by simpa using np) (by simpa using nf1.symm) (by simpa using nt1.symm))
     have HX8:=ah (X8.store (kE p k2) (k2+1))
     have K8:=ah ((K7.out.step hb8).j4 (b:=w.heap.size) (.inr (aH _)) (.int .i64 (kE p k2)) (.int .i64 (k2+1)))
     clear ks X8 hrun
     go_wp2
     go_roundg ((6-(k2+1)).toNat+1)
     case measure=>omega
     case rel=>exact⟨k2+1,kE p k2,_,om,om,om,kpp.1,om,B8,UP,DF2,HX8,K8.out,by simp[World.setCell];omega⟩
    ·have HNO:Hid (q<6→jK F' (j3 p q)≠some q):=fun _ e=>hk2 (aI (hg.symm.trans e))
     have hne:(k2 !=q)=true:=by rw[bne_iff_ne];exact hk2
     have hne':(k2==q)=false:=beq_eq_false_iff_ne.2 hk2
     have HO:=ah (uO p q wr hEr (yN al om))
     clear hEr al
     go_wp2_with fail
     refine HO.out.mono ?_
     rintro e w5 ⟨rfl,hb5⟩
     clear HO
     have z5:=hb5.size
     have c1:=(hb5.cell (p:=⟨pb,1,none⟩) (show pb<wr.heap.size by omega)).trans HBr.out.c1
     have lp5:pb<w5.heap.size:=om
     have lk:=fun m=>mM (((HBr.out.free.keep (Keep.of (S:=[]) hb5) sI).keep (((Keep.refl [] _).alloc (.cells #[.int .i64 (j3 p q),.int .i64 q] 59)).drewN m) sI)) (a:=j3 p q) (rA kb.1 kb.2)
     rw[hg] at lk
     simp only[fE,fM] at lk
     clear hg kb h6 hk2
     go_wp2
     go_quiet (fail)
     have Bn:=HBr.out.keep (Keep.of (S:=[]) hb5) sI sI sI
     have ky:Keep [] w5 ((((w5.alloc (.cells #[.int .i64 (j3 p q),.int .i64 q] 59)).drewN (nq+1)))):=((Keep.refl _ _).alloc _).drewN _
     have hput:=IHr.out
     have hfin:=hput.putF HNO.out
     obtain⟨w7,hrun,hpt,hgr⟩:=(Bn.free.keep ky sI).put (hput.rng (aD ..)) (iT hfin.fa (fun z hz=>hfin.BG hz))
     have k57:Keep [bf] w5 w7:=(ky.mono (fun s q=>by cases q)).grown hgr (.inl sI)
     have B7:=Bn.xS hpt k57
     rw[←o8 q0 q6 HNO.out,DFr.out] at B7
     have HB7:=ah B7
     have K7:Keep [bf,bt] w w7:=(Kr.step hb5).then (k57.mono (fun s hs=>by simp at hs ⊢;exact .inl hs))
     have HK7:=ah K7
     have c1:=Bn.c1
     have lp5:pb<w5.heap.size:=om
     have s0:=(hb5.cell (p:=⟨w.heap.size,0,none⟩) zr).trans x0
     have s1:=(hb5.cell (p:=⟨w.heap.size,1,none⟩) zr).trans x1
     have lw5:w.heap.size<w5.heap.size:=om
     clear hput hfin hpt hgr k57 B7 K7 ky Bn
     go_wp2
     refine iK 8 kR kR ?_
     simp only[aO,aX,aP,aV]
     repeat still_step
     refine wpStill_nil ?_
     go_wp2
     go_ret
     exact⟨rfl,HB7.out,HK7.out⟩
end
section
open Go.RowKit
theorem p9 {base:Nat} (v:Value) (l:List (Int×Int)) (j:Nat) (w:World) (h:tL base w v l) (hj:j<l.length) (hl:l.length≤256):
 Calls Tryz.prog 223 #[v,.int .i64 j] w fun e w'=>∃v',e= .returned v'∧qZ w w' v' (l.take j++l.drop (j+1)):=by
 rcases h with⟨_,rfl⟩|⟨g,cap,rfl,hcap,hmax,_,hg,hc⟩
 ·simp at hj
 unfold maxLen at hmax
 have C:=ah hc
 have lj:(l.take j).length=j:=by rw[aU];omega
 have ld:(l.drop (j+1)).length=l.length-(j+1):=bT
 obtain⟨N,hN⟩: ∃N,N=l.length:=⟨_,rfl⟩
 rw[←hN] at hj hl hcap ld ⊢
 have LJ:=ah lj;have LD:=ah ld
 clear hc lj ld hN
 have s1:Hid (Src w (some ⟨g,0,none⟩) (l.take j)):=.inr ⟨g,0,rfl,fun i a k hi=>by
  have hij:i<j:=by have:=(ak.1 hi).1;rw[LJ.out] at this;exact this
  rw[bO hij] at hi
  have:=C.out i a k hi
  rwa [bN]⟩
 by_cases hk:cap=j+1
 ·subst hk
  have hN1:N=j+1:=om
  have s2:Hid (∀w',Src w' (some ⟨g,0,none⟩) (l.drop (j+1))):=fun w'=>.inr ⟨g,0,rfl,fun i a k hi=>by
   have:=(ak.1 hi).1
   rw[LD.out] at this;omega⟩
  have HN1:=ah hN1
  subst hN1
  go_enter Tryz.func223,Tryz.ntmps223
  go_wp2_with (first|(at_builtin;refine iw (base:=w.heap.size) (v:=.slice none 0 0) (l:=[]) (m:=l.take j) (p:=some ⟨g,0,none⟩) rfl (.tmp 6) (.tmp 9) rf rf j rf LJ.out (aR _ _ _ _) s1.out (by rw[LJ.out];simp;omega) (aH _) ?_;intro v1 w1 hown1 hg1;have hb1:Below w.heap.size w w1:=(aK _ _).grown hg1 (aH _) (fun r hr=>by simp[Value.ownBlock] at hr))|(at_builtin;go_loud (refine iw (base:=w.heap.size) (v:=v1) (l:=[]++l.take j) (m:=l.drop (j+1)) (p:=some ⟨g,0,none⟩) rfl (.tmp 11) (.tmp 15) rf rf (0) rf (by rw[LD.out];omega) hown1 (s2.out _) (by rw[LD.out];simp[LJ.out];omega) hb1.size ?_;intro v2 w2 hown2 hg2;have hb2:Below w.heap.size w w2:=hb1.grown hg2 hb1.size (fun r hr=>(hown1.lt r hr).1))))
  go_ret
  exact⟨_,rfl,by simpa using hown2,hb2⟩
 ·have s2:Hid (∀w',Below w.heap.size w w'→Src w' (some ⟨g,(j+1)*2,none⟩) (l.drop (j+1))):=fun w' hb=>.inr ⟨g,(j+1)*2,rfl,fun i a k hi=>by
   rw[bM] at hi
   obtain⟨h1,h2⟩:=C.out _ a k hi
   have e1:(j+1)*2+i*2=(j+1+i)*2:=om
   rw[e1,hb.cell (p:=⟨g,(j+1+i)*2,none⟩) hg,hb.cell (p:=⟨g,(j+1+i)*2+1,none⟩) hg]
   exact⟨h1,h2⟩⟩
  go_enter Tryz.func223,Tryz.ntmps223
  go_wp2_with (first|(at_builtin;refine iw (base:=w.heap.size) (v:=.slice none 0 0) (l:=[]) (m:=l.take j) (p:=some ⟨g,0,none⟩) rfl (.tmp 6) (.tmp 9) rf rf j rf LJ.out (aR _ _ _ _) s1.out (by rw[LJ.out];simp;omega) (aH _) ?_;intro v1 w1 hown1 hg1;have hb1:Below w.heap.size w w1:=(aK _ _).grown hg1 (aH _) (fun r hr=>by simp[Value.ownBlock] at hr))|(at_builtin;go_loud (refine iw (base:=w.heap.size) (v:=v1) (l:=[]++l.take j) (m:=l.drop (j+1)) (p:=some ⟨g,(j+1)*2,none⟩) rfl (.tmp 11) (.tmp 15) rf rf (N-(j+1)) rf (LD.out) hown1 (s2.out _ hb1) (by rw[LD.out];simp[LJ.out];omega) hb1.size ?_;intro v2 w2 hown2 hg2;have hb2:Below w.heap.size w w2:=hb1.grown hg2 hb1.size (fun r hr=>(hown1.lt r hr).1))))
  go_ret
  exact⟨_,rfl,by simpa using hown2,hb2⟩
theorem uS (w:World) (a k:Int) (t:TypeId):Src (w.alloc (.cells #[.int .i64 a,.int .i64 k] t)) (some ⟨w.heap.size,0,none⟩) [(a,k)]:=
 .inr ⟨w.heap.size,0,rfl,fun i x y hi=>by
  have h0:i=0:=by have:=(ak.1 hi).1;simp at this;exact this
  subst h0
  simp at hi
  obtain⟨rfl,rfl⟩:=hi
  exact⟨by rw[aJ _ _ _ _ sI];rfl,by rw[aJ _ _ _ _ sI];rfl⟩⟩
theorem uT {base:Nat} (v:Value) (l:List (Int×Int)) (a k:Int) (w:World) (h:tL base w v l) (hA:Asc l) (hne: ∀x∈l,x.1≠a) (hl:l.length≤256):
 Calls Tryz.prog 224 #[v,.agg #[.int .i64 a,.int .i64 k]] w fun e w'=>∃v',e= .returned v'∧qZ w w' v' (ji a k l):=by
 have HA:=ah hA;have HNE:=ah hne
 clear hA hne
 have h': ∃p cap,v= .slice p l.length cap∧l.length≤cap∧cap≤maxLen∧Hid ((p=none∧cap=0)∨∃g,p=some ⟨g,0,none⟩∧g<w.heap.size∧RowC w g l):=by
  rcases h with⟨rfl,rfl⟩|⟨g,cap,rfl,hcap,hmax,_,hg,hc⟩
  ·exact⟨none,0,rfl,aH _,aQ _,.inl ⟨rfl,rfl⟩⟩
  ·exact⟨_,cap,rfl,hcap,hmax,.inr ⟨g,rfl,hg,hc⟩⟩
 obtain⟨p,cap,rfl,hcap,hmax,HP0⟩:=h'
 clear h
 unfold maxLen at hmax
 obtain⟨N,hN⟩: ∃N,N=l.length:=⟨_,rfl⟩
 have HN:=ah hN
 rw[←hN] at hl hcap ⊢
 clear hN
 go_enter Tryz.func224,Tryz.ntmps224
 go_wp2_with fail
 go_loopw [5] (fun jv wr=>∃j:Nat,j≤N∧jv= .int .i64 j∧Hid (∀x∈l.take j,x.1<a)∧Below w.heap.size w wr∧Hid (kV wr w.heap.size a k)) (fun jv _=>N-(intOf jv).toNat)
 case atStart=>exact⟨0,aQ _,by go_num,(fun x hx=>by simp at hx),gI,kV.new w a k _⟩
 case round=>
  obtain⟨j,hj,rfl,HLO,hbel,HX⟩:=hrel
  have X:=HX.out
  have zr:w.heap.size<wr.heap.size:=X.lt
  have x0:=X.c0;have x1:=X.c1
  have LJ:Hid ((l.take j).length=j):=(show _=_ by rw[aU,←HN.out];omega)
  have LD:Hid ((l.drop j).length=N-j):=(show _=_ by rw[bT,←HN.out])
  by_cases hlt:j<N
  ·rcases HP0.out with⟨_,e0⟩|⟨g,rfl,hg,hc⟩
   ·omega
   have C:=ah hc
   obtain⟨y,hy⟩: ∃y,l[j]?=some y:=⟨l[j]'(by rw[←HN.out];exact hlt),au _⟩
   obtain⟨y0,y1⟩:=y
   obtain⟨p1,p2⟩:=C.out j y0 y1 hy
   have r1:=(hbel.cell (p:=⟨g,j*2,none⟩) hg).trans p1
   have gr:g<wr.heap.size:=om
   have HY:=ah hy
   clear hc p1 p2 hy
   by_cases hya:y0<a
   ·have HLO2:Hid (∀x∈l.take (j+1),x.1<a):=take_lt HLO.out HY.out hya
    go_wp2
    go_quiet (fail)
    go_wp2
    go_roundw
    case rel=>exact⟨j+1,om,by go_num,HLO2,below_drewN hbel _,(show kV _ _ _ _ from X.keep ((Keep.refl [] _).drewN _) sI)⟩
    case measure=>simp[intOf];omega
   ·have HP:Hid (ji a k l=l.take j++(a,k)::l.drop j):=uM HLO.out (cut_at HA.out HNE.out HLO.out (fun x hx=>by
     have e:=aI (HY.out.symm.trans hx);rw[←e];show a≤y0;omega))
    have s1:Hid (∀w',Below w.heap.size w w'→Src w' (some ⟨g,0,none⟩) (l.take j)):=fun w' hb=>.inr ⟨g,0,rfl,fun i x y hi=>by
     have hij:i<j:=by have:=(ak.1 hi).1;rw[LJ.out] at this;exact this
     rw[bO hij] at hi
     rw[bN,hb.cell (p:=⟨g,i*2,none⟩) hg,hb.cell (p:=⟨g,i*2+1,none⟩) hg]
     exact C.out i x y hi⟩
    have s2:Hid (∀w',Below w.heap.size w w'→Src w' (some ⟨g,j*2,none⟩) (l.drop j)):=fun w' hb=>.inr ⟨g,j*2,rfl,fun i x y hi=>by
     rw[bM] at hi
     have e1:j*2+i*2=(j+i)*2:=om
     rw[e1,hb.cell (p:=⟨g,(j+i)*2,none⟩) hg,hb.cell (p:=⟨g,(j+i)*2+1,none⟩) hg]
     exact C.out _ x y hi⟩
    have hcj: ¬cap=j:=om
    go_wp2
    go_quiet (fail)
    obtain⟨wz,hwz⟩: ∃wz,wz=wr.drewN nq:=⟨_,rfl⟩
    rw[←hwz]
    have hbz:Below w.heap.size w wz:=by rw[hwz];exact below_drewN hbel _
    have Xz:kV wz w.heap.size a k:=by rw[hwz];exact X.keep ((Keep.refl [] _).drewN _) sI
    have zz:w.heap.size<wz.heap.size:=Xz.lt
    clear hwz hbel X x0 x1
    go_wp2_with (first|(at_builtin;refine iw (base:=w.heap.size) (v:=.slice none 0 0) (l:=[]) (m:=l.take j) (p:=some ⟨g,0,none⟩) rfl (.tmp 23) (.tmp 26) rf rf j rf LJ.out (aR _ _ _ _) (s1.out _ hbz) (by rw[LJ.out];simp;try omega) om ?_;intro v1 w1 hown1 hg1;have hb1:Below w.heap.size w w1:=hbz.grown hg1 om (fun r hr=>by simp[Value.ownBlock] at hr);have hz1:w.heap.size<w1.heap.size:=(by have:=hg1.size;omega);have x0:=(hg1.block w.heap.size om (by simp[Value.ownBlock]));have cx0:w1.cell? ⟨w.heap.size,0,none⟩=some (.int .i64 a):=(cu x0).trans Xz.c0;have cx1:w1.cell? ⟨w.heap.size,1,none⟩=some (.int .i64 k):=(cu x0).trans Xz.c1)|(at_builtin;refine iw (base:=w.heap.size) (v:=v1) (l:=[]++l.take j) (m:=[(a,k)]) (p:=some ⟨w1.heap.size,0,none⟩) rfl (.tmp 28) (.tmp 30) rf rf 1 rf rf (hown1.alloc _) (uS _ _ _ _) (by simp[LJ.out];try omega) (by simp;try omega) ?_;intro v2 w2 hown2 hg2;have hb2:Below w.heap.size w w2:=(hb1.alloc hb1.size _).grown hg2 (by simp;omega) (fun r hr=>(hown1.lt r hr).1);have hz2:w1.heap.size<w2.heap.size:=(by have:=hg2.size;simp at this;omega))|(at_builtin;refine iw (base:=w.heap.size) (v:=v2) (l:=([]++l.take j)++[(a,k)]) (m:=l.drop j) (p:=some ⟨g,j*2,none⟩) rfl (.tmp 32) (.tmp 35) rf rf (N-j) rf (LD.out) hown2 (s2.out _ hb2) (by rw[LD.out];simp[LJ.out];try omega) om ?_;intro v3 w3 hown3 hg3;have hb3:Below w.heap.size w w3:=hb2.grown hg3 om (fun r hr=>(hown2.lt r hr).1)))
    go_ret
    exact⟨_,rfl,by rw[HP.out];exact⟨(show World.ownsRow _ _ _ _ _ _ _ by simpa using hown3),hb3⟩⟩
  ·have ej:j=N:=by omega
   have HP:Hid (ji a k l=l.take j++(a,k)::l.drop j):=uM HLO.out (fun x hx=>by
    have:l.drop j=[]:=eX (by rw[←HN.out];omega)
    rw[this] at hx;cases hx)
   have hd:Hid (l.drop j=[]):=eX (by rw[←HN.out];omega)
   have LD0:Hid ((l.drop j).length=0):=(show _=_ by rw[hd.out];rfl)
   rcases HP0.out with⟨rfl,e0⟩|⟨g,rfl,hg,hc⟩
   ·have ej0:j=0:=by omega
    subst e0
    subst ej
    have s1:Hid (∀w',Below w.heap.size w w'→Src w' none (l.take j)):=fun w' _=>.inl ⟨rfl,by rw[ej0];rfl⟩
    have s2:Hid (∀w',Src w' none (l.drop j)):=fun w'=>.inl ⟨rfl,hd.out⟩
    clear HP0
    subst ej0
    go_wp2
    go_quiet (fail)
    obtain⟨wz,hwz⟩: ∃wz,wz=wr.drewN nq:=⟨_,rfl⟩
    rw[←hwz]
    have hbz:Below w.heap.size w wz:=by rw[hwz];exact below_drewN hbel _
    have Xz:kV wz w.heap.size a k:=by rw[hwz];exact X.keep ((Keep.refl [] _).drewN _) sI
    have zz:w.heap.size<wz.heap.size:=Xz.lt
    clear hwz hbel X x0 x1
    go_wp2_with (first|(at_builtin;refine iw (base:=w.heap.size) (v:=.slice none 0 0) (l:=[]) (m:=l.take 0) (p:=none) rfl (.tmp 23) (.tmp 26) rf rf 0 rf LJ.out (aR _ _ _ _) (s1.out _ hbz) (by rw[LJ.out];simp;try omega) om ?_;intro v1 w1 hown1 hg1;have hb1:Below w.heap.size w w1:=hbz.grown hg1 om (fun r hr=>by simp[Value.ownBlock] at hr);have hz1:w.heap.size<w1.heap.size:=(by have:=hg1.size;omega);have x0:=(hg1.block w.heap.size om (by simp[Value.ownBlock]));have cx0:w1.cell? ⟨w.heap.size,0,none⟩=some (.int .i64 a):=(cu x0).trans Xz.c0;have cx1:w1.cell? ⟨w.heap.size,1,none⟩=some (.int .i64 k):=(cu x0).trans Xz.c1)|(at_builtin;refine iw (base:=w.heap.size) (v:=v1) (l:=[]++l.take 0) (m:=[(a,k)]) (p:=some ⟨w1.heap.size,0,none⟩) rfl (.tmp 28) (.tmp 30) rf rf 1 rf rf (hown1.alloc _) (uS _ _ _ _) (by simp[LJ.out];try omega) (by simp;try omega) ?_;intro v2 w2 hown2 hg2;have hb2:Below w.heap.size w w2:=(hb1.alloc hb1.size _).grown hg2 (by simp;omega) (fun r hr=>(hown1.lt r hr).1);have hz2:w1.heap.size<w2.heap.size:=(by have:=hg2.size;simp at this;omega))|(at_builtin;refine iw (base:=w.heap.size) (v:=v2) (l:=([]++l.take 0)++[(a,k)]) (m:=l.drop 0) (p:=none) rfl (.tmp 32) (.tmp 35) rf rf (0) rf (LD0.out) hown2 (s2.out _) (by rw[LD.out];simp[LJ.out];try omega) om ?_;intro v3 w3 hown3 hg3;have hb3:Below w.heap.size w w3:=hb2.grown hg3 om (fun r hr=>(hown2.lt r hr).1)))
    go_ret
    exact⟨_,rfl,by rw[HP.out];exact⟨(show World.ownsRow _ _ _ _ _ _ _ by simpa using hown3),hb3⟩⟩
   ·have C:=ah hc
    have s1:Hid (∀w',Below w.heap.size w w'→Src w' (some ⟨g,0,none⟩) (l.take j)):=fun w' hb=>.inr ⟨g,0,rfl,fun i x y hi=>by
     have hij:i<j:=by have:=(ak.1 hi).1;rw[LJ.out] at this;exact this
     rw[bO hij] at hi
     rw[bN,hb.cell (p:=⟨g,i*2,none⟩) hg,hb.cell (p:=⟨g,i*2+1,none⟩) hg]
     exact C.out i x y hi⟩
    have s2:Hid (∀w' o,Src w' (some ⟨g,o,none⟩) (l.drop j)):=fun w' o=>.inr ⟨g,o,rfl,fun i x y hi=>by rw[hd.out] at hi;simp at hi⟩
    clear hc
    subst ej
    by_cases hcj:cap=j
    ·have hcj2:=hcj.symm
     subst hcj2
     go_wp2
     go_quiet (fail)
     obtain⟨wz,hwz⟩: ∃wz,wz=wr.drewN nq:=⟨_,rfl⟩
     rw[←hwz]
     have hbz:Below w.heap.size w wz:=by rw[hwz];exact below_drewN hbel _
     have Xz:kV wz w.heap.size a k:=by rw[hwz];exact X.keep ((Keep.refl [] _).drewN _) sI
     have zz:w.heap.size<wz.heap.size:=Xz.lt
     clear hwz hbel X x0 x1
     go_wp2_with (first|(at_builtin;refine iw (base:=w.heap.size) (v:=.slice none 0 0) (l:=[]) (m:=l.take j) (p:=some ⟨g,0,none⟩) rfl (.tmp 23) (.tmp 26) rf rf j rf LJ.out (aR _ _ _ _) (s1.out _ hbz) (by rw[LJ.out];simp;try omega) om ?_;intro v1 w1 hown1 hg1;have hb1:Below w.heap.size w w1:=hbz.grown hg1 om (fun r hr=>by simp[Value.ownBlock] at hr);have hz1:w.heap.size<w1.heap.size:=(by have:=hg1.size;omega);have x0:=(hg1.block w.heap.size om (by simp[Value.ownBlock]));have cx0:w1.cell? ⟨w.heap.size,0,none⟩=some (.int .i64 a):=(cu x0).trans Xz.c0;have cx1:w1.cell? ⟨w.heap.size,1,none⟩=some (.int .i64 k):=(cu x0).trans Xz.c1)|(at_builtin;refine iw (base:=w.heap.size) (v:=v1) (l:=[]++l.take j) (m:=[(a,k)]) (p:=some ⟨w1.heap.size,0,none⟩) rfl (.tmp 28) (.tmp 30) rf rf 1 rf rf (hown1.alloc _) (uS _ _ _ _) (by simp[LJ.out];try omega) (by simp;try omega) ?_;intro v2 w2 hown2 hg2;have hb2:Below w.heap.size w w2:=(hb1.alloc hb1.size _).grown hg2 (by simp;omega) (fun r hr=>(hown1.lt r hr).1);have hz2:w1.heap.size<w2.heap.size:=(by have:=hg2.size;simp at this;omega))|(at_builtin;refine iw (base:=w.heap.size) (v:=v2) (l:=([]++l.take j)++[(a,k)]) (m:=l.drop j) (p:=some ⟨g,0,none⟩) rfl (.tmp 32) (.tmp 35) rf rf (0) rf (LD0.out) hown2 (s2.out _ _) (by rw[LD.out];simp[LJ.out];try omega) om ?_;intro v3 w3 hown3 hg3;have hb3:Below w.heap.size w w3:=hb2.grown hg3 om (fun r hr=>(hown2.lt r hr).1)))
     go_ret
     exact⟨_,rfl,by rw[HP.out];exact⟨(show World.ownsRow _ _ _ _ _ _ _ by simpa using hown3),hb3⟩⟩
    ·have e00:j-j=0:=Nat.sub_self _
     go_wp2
     go_quiet (fail)
     obtain⟨wz,hwz⟩: ∃wz,wz=wr.drewN nq:=⟨_,rfl⟩
     rw[←hwz]
     have hbz:Below w.heap.size w wz:=by rw[hwz];exact below_drewN hbel _
     have Xz:kV wz w.heap.size a k:=by rw[hwz];exact X.keep ((Keep.refl [] _).drewN _) sI
     have zz:w.heap.size<wz.heap.size:=Xz.lt
     clear hwz hbel X x0 x1
     go_wp2_with (first|(at_builtin;refine iw (base:=w.heap.size) (v:=.slice none 0 0) (l:=[]) (m:=l.take j) (p:=some ⟨g,0,none⟩) rfl (.tmp 23) (.tmp 26) rf rf j rf LJ.out (aR _ _ _ _) (s1.out _ hbz) (by rw[LJ.out];simp;try omega) om ?_;intro v1 w1 hown1 hg1;have hb1:Below w.heap.size w w1:=hbz.grown hg1 om (fun r hr=>by simp[Value.ownBlock] at hr);have hz1:w.heap.size<w1.heap.size:=(by have:=hg1.size;omega);have x0:=(hg1.block w.heap.size om (by simp[Value.ownBlock]));have cx0:w1.cell? ⟨w.heap.size,0,none⟩=some (.int .i64 a):=(cu x0).trans Xz.c0;have cx1:w1.cell? ⟨w.heap.size,1,none⟩=some (.int .i64 k):=(cu x0).trans Xz.c1)|(at_builtin;refine iw (base:=w.heap.size) (v:=v1) (l:=[]++l.take j) (m:=[(a,k)]) (p:=some ⟨w1.heap.size,0,none⟩) rfl (.tmp 28) (.tmp 30) rf rf 1 rf rf (hown1.alloc _) (uS _ _ _ _) (by simp[LJ.out];try omega) (by simp;try omega) ?_;intro v2 w2 hown2 hg2;have hb2:Below w.heap.size w w2:=(hb1.alloc hb1.size _).grown hg2 (by simp;omega) (fun r hr=>(hown1.lt r hr).1);have hz2:w1.heap.size<w2.heap.size:=(by have:=hg2.size;simp at this;omega))|(at_builtin;refine iw (base:=w.heap.size) (v:=v2) (l:=([]++l.take j)++[(a,k)]) (m:=l.drop j) (p:=some ⟨g,j*2,none⟩) rfl (.tmp 32) (.tmp 35) rf rf (0) rf (LD0.out) hown2 (s2.out _ _) (by rw[LD.out];simp[LJ.out];try omega) om ?_;intro v3 w3 hown3 hg3;have hb3:Below w.heap.size w w3:=hb2.grown hg3 om (fun r hr=>(hown2.lt r hr).1)))
     go_ret
     exact⟨_,rfl,by rw[HP.out];exact⟨(show World.ownsRow _ _ _ _ _ _ _ by simpa using hown3),hb3⟩⟩
theorem asc_at {l:List (Int×Int)} (hA:Asc l) {z:Int×Int} (h:z∈l): ∃j:Nat,l[j]?=some z∧∀x∈l.take j,x≠z:=by
 obtain⟨j,hj,e⟩:=List.getElem_of_mem h
 refine⟨j,by rw[au hj,e],fun x hx he=> ?_⟩
 obtain⟨i,hi,e2⟩:=List.getElem_of_mem hx
 rw[aU] at hi
 rw[List.getElem_take] at e2
 have:=cK.1 hA i j om hj om
 rw[e,e2,he] at this
 omega
theorem zy {base:Nat} (v:Value) (l:List (Int×Int)) (a k:Int) (j0:Nat) (w:World) (h:tL base w v l) (hz:l[j0]?=some (a,k)) (hno: ∀x∈l.take j0,x≠(a,k)) (hl:l.length≤256):
 Calls Tryz.prog 261 #[v,.agg #[.int .i64 a,.int .i64 k]] w fun e w'=>e= .returned (.int .i64 j0)∧Below w.heap.size w w':=by
 have eb:=eqB;have gb:=BX
 have hj0:=(ak.1 hz).1
 rcases h with⟨_,rfl⟩|⟨g,cap,rfl,hcap,hmax,_,hg,hc⟩
 ·simp at hj0
 have C:=ah hc;have HZ:=ah hz;have HNO:=ah hno
 obtain⟨N,hN⟩: ∃N,N=l.length:=⟨_,rfl⟩
 have HN:=ah hN
 rw[←hN] at hl hcap hj0 ⊢
 clear hc hz hno hN hmax
 go_enter Tryz.func261,Tryz.ntmps261
 go_wp2_with fail
 go_loopw [5] (fun jv wr=>∃j:Nat,j≤j0∧jv= .int .i64 j∧Below w.heap.size w wr∧Hid (kV wr w.heap.size a k)) (fun jv _=>N-(intOf jv).toNat)
 case atStart=>exact⟨0,aQ _,by go_num,gI,kV.new w a k _⟩
 case round=>
  obtain⟨j,hj,rfl,hbel,HX⟩:=hrel
  have X:=HX.out
  have zr:w.heap.size<wr.heap.size:=X.lt
  have x0:=X.c0;have x1:=X.c1
  have hlt:j<N:=om
  obtain⟨y,hy⟩: ∃y,l[j]?=some y:=⟨l[j]'(by rw[←HN.out];exact hlt),au _⟩
  obtain⟨y0,y1⟩:=y
  obtain⟨p1,p2⟩:=C.out j y0 y1 hy
  have r1:=(hbel.cell (p:=⟨g,j*2,none⟩) hg).trans p1
  have r2:=(hbel.cell (p:=⟨g,j*2+1,none⟩) hg).trans p2
  have gr:g<wr.heap.size:=om
  by_cases e:j=j0
  ·subst e
   have e1:=aI (hy.symm.trans HZ.out)
   have e2:y0=a:=congrArg Prod.fst e1
   have e3:y1=k:=congrArg Prod.snd e1
   subst e2 e3
   clear p1 p2 hy e1
   go_wp2
   go_quiet (fail)
   go_wp2
   go_ret
   exact⟨rfl,below_drewN hbel _⟩
  ·have hne:(y0==a&&y1==k)=false:=by
    have:=HNO.out (y0,y1) (aA (i:=j) (by rw[bO om];exact hy))
    rw[Bool.and_eq_false_iff]
    by_cases e1:y0=a
    ·right;exact beq_eq_false_iff_ne.2 fun e2=>this (by rw[e1,e2])
    ·left;exact beq_eq_false_iff_ne.2 e1
   clear p1 p2 hy
   go_wp2
   go_quiet (fail)
   go_wp2
   go_roundw
   case rel=>exact⟨j+1,om,by go_num,below_drewN hbel _,(show kV _ _ _ _ from X.keep ((Keep.refl [] _).drewN _) sI)⟩
   case measure=>simp[intOf];omega
theorem zF {base:Nat} (v:Value) (l:List (Int×Int)) (a k:Int) (w:World) (h:tL base w v l) (hno:(a,k)∉l) (hl:l.length≤256):
 Calls Tryz.prog 261 #[v,.agg #[.int .i64 a,.int .i64 k]] w fun e w'=>e= .returned (.int .i64 (-1))∧Below w.heap.size w w':=by
 have eb:=eqB;have gb:=BX
 have h': ∃p cap,v= .slice p l.length cap∧Hid ((l=[]∧p=none)∨∃g,p=some ⟨g,0,none⟩∧g<w.heap.size∧RowC w g l):=by
  rcases h with⟨rfl,rfl⟩|⟨g,cap,rfl,hcap,hmax,_,hg,hc⟩
  ·exact⟨none,0,rfl,.inl ⟨rfl,rfl⟩⟩
  ·exact⟨_,cap,rfl,.inr ⟨g,rfl,hg,hc⟩⟩
 obtain⟨p,cap,rfl,HP0⟩:=h'
 clear h
 have HNO:=ah hno
 obtain⟨N,hN⟩: ∃N,N=l.length:=⟨_,rfl⟩
 have HN:=ah hN
 rw[←hN] at hl ⊢
 clear hno hN
 go_enter Tryz.func261,Tryz.ntmps261
 go_wp2_with fail
 go_loopw [5] (fun jv wr=>∃j:Nat,j≤N∧jv= .int .i64 j∧Below w.heap.size w wr∧Hid (kV wr w.heap.size a k)) (fun jv _=>N-(intOf jv).toNat)
 case atStart=>exact⟨0,aQ _,by go_num,gI,kV.new w a k _⟩
 case round=>
  obtain⟨j,hj,rfl,hbel,HX⟩:=hrel
  have X:=HX.out
  have zr:w.heap.size<wr.heap.size:=X.lt
  have x0:=X.c0;have x1:=X.c1
  by_cases hlt:j<N
  ·rcases HP0.out with⟨e0,_⟩|⟨g,rfl,hg,hc⟩
   ·have:=HN.out;rw[e0] at this;simp at this;omega
   obtain⟨y,hy⟩: ∃y,l[j]?=some y:=⟨l[j]'(by rw[←HN.out];exact hlt),au _⟩
   obtain⟨y0,y1⟩:=y
   obtain⟨p1,p2⟩:=hc j y0 y1 hy
   have r1:=(hbel.cell (p:=⟨g,j*2,none⟩) hg).trans p1
   have r2:=(hbel.cell (p:=⟨g,j*2+1,none⟩) hg).trans p2
   have gr:g<wr.heap.size:=om
   have hne:(y0==a&&y1==k)=false:=by
    rw[Bool.and_eq_false_iff]
    by_cases e1:y0=a
    ·right;exact beq_eq_false_iff_ne.2 fun e2=>HNO.out (by rw[←e1,←e2];exact aA hy)
    ·left;exact beq_eq_false_iff_ne.2 e1
   clear p1 p2 hy hc
   go_wp2
   go_quiet (fail)
   go_wp2
   go_roundw
   case rel=>exact⟨j+1,om,by go_num,below_drewN hbel _,(show kV _ _ _ _ from X.keep ((Keep.refl [] _).drewN _) sI)⟩
   case measure=>simp[intOf];omega
  ·go_wp2
   go_ret
   exact⟨rfl,hbel⟩
end
end Go.Proofs.YtdcbhlcbiokbeaaGreatDoor
