/- Lemmas and contracts for the claim's last text: BudW, Code. -/
import Derived.Test.YtdcbhlcbiokbeaaGreatDoorPf01
import Derived.Test.YtdcbhlcbiokbeaaGreatDoorPf04
set_option linter.unusedSimpArgs false
set_option linter.unusedVariables false
set_option maxHeartbeats 16000000
set_option maxRecDepth 100000
namespace Go.Proofs.YtdcbhlcbiokbeaaGreatDoor
section
open Go.RowKit Go.Maps
theorem xS {k:Int} {F:List (Int×Int)} (h:jA k F=none):yJ k F=[]:=by
 unfold jA at h
 split at h
 ·assumption
 ·cases h
theorem vY {k:Int} {F:List (Int×Int)} {x:Int×Int} (h:jA k F=some x): ∃y r,yJ k F=y::r∧tK y r=x:=by
 unfold jA at h
 split at h
 ·cases h
 ·rename_i y r e
  exact⟨y,r,e,aH h⟩
theorem Ck {B:Nat} {ev:Nat→Addr} (pb:Nat) (n:Int) (bf bt:Nat) (F T:List (Int×Int)) (k:Int) (w:World) (hE:Bv B ev w) (hb:Bud w pb n bf bt F T) (k0:0≤k) (k6:k≤6) (h:jA k F=none):
 Calls Tryz.prog 123 #[.pointer (some ⟨pb,0,none⟩),.int .i64 k] w fun e w'=>e= .returned (.tuple #[.agg #[.int .i64 0,.int .i64 0],iJ ev 5])∧Below w.heap.size w w':=by
 have hB:=hE.size
 have hmf: ∀(fn:Fn) (first cap:Array Value) (w:World),(Instr.makeFunc fn first cap).run Tryz.prog w= .ok (.func fn first cap) w:=fun _ _ _ _=>rfl
 have c1:=hb.c1
 have lp:=hb.ltp
 have HF:=ah hb.free
 have lf:=hb.ltf
 have few:=hb.free.few
 have fit:=xS h
 have FIT:=ah fit
 clear hb h fit
 go_enter Tryz.func123,Tryz.ntmps123
 go_wp2_with (go_at_call 121;refine(uG _ _ ⟨k0,k6⟩).mono ?_;rintro e w' ⟨rfl,rfl⟩)
 refine(rJ bf F _ (HF.out.below (n:=w.heap.size) iq lf)).mono ?_
 rintro e w1 ⟨v,rfl,hv⟩
 have hb1:=hv.2
 have z1:=hb1.size
 simp at z1
 have kc:w1.cell? ⟨w.heap.size,0,none⟩=some (.int .i64 k):=(hb1.cell (p:=⟨w.heap.size,0,none⟩) (by first|omega|(simp;omega)|(simp;done))).trans (by rw[dA _ _ _ (by first|omega|(simp;omega)|(simp;done)),aJ _ _ _ _ sI];rfl)
 have r0:w1.cell? ⟨w.heap.size+1,0,none⟩=some (.int .i64 0):=(hb1.cell (p:=⟨w.heap.size+1,0,none⟩) (by first|omega|(simp;omega)|(simp;done))).trans (by rw[aJ _ _ _ _ sI];rfl)
 have r1:w1.cell? ⟨w.heap.size+1,1,none⟩=some (.int .i64 0):=(hb1.cell (p:=⟨w.heap.size+1,1,none⟩) sI).trans (by rw[aJ _ _ _ _ sI];rfl)
 have f0:w1.frozen? ⟨w.heap.size+1,0,none⟩=false:=(hb1.frozen (p:=⟨w.heap.size+1,0,none⟩) sI).trans (bN _ _ _ _ sI)
 have f1:w1.frozen? ⟨w.heap.size+1,1,none⟩=false:=(hb1.frozen (p:=⟨w.heap.size+1,1,none⟩) sI).trans (bN _ _ _ _ sI)
 have hE1:Bv B ev w1:=hE.below iq
 have K1:Below w.heap.size w w1:=iq
 have z5:=hE1.z5
 have c5:=hE1.c5
 have HE1:=ah hE1
 have key:Calls Tryz.prog 216 #[v,vL w.heap.size] w1 fun e w'=>∃p c,e= .returned (.slice p 0 c)∧Below (w.heap.size+2) w1 w':=by
  rcases hv.mrow with⟨rfl,hnil⟩|⟨g,cap,rfl,hg0,hg,hcap,hc⟩
  ·exact(delF_nil _ _).mono fun e w' ⟨h1,h2⟩=>⟨_,_,h1,by rw[←h2];exact aU _ _⟩
  ·have hg1:w.heap.size+2≤g:=by simpa using hg0
   have hcl:w.heap.size<w1.heap.size:=om
   have hcg:w.heap.size≠g:=om
   refine(yT g cap w.heap.size k F w1 hc hg few hcap kc hcl hcg).mono fun e w' ⟨h1,_,h3⟩=> ?_
   rw[FIT.out] at h1
   exact⟨_,_,h1,h3.below om (fun s hs=>by rw[dJ.1 hs];exact hg1)⟩
 have KEY:=ah key
 clear key hv
 unfold vL at KEY
 go_wp2_with fail
 refine KEY.out.mono ?_
 rintro e w2 ⟨p,c,rfl,hb2⟩
 have z2:=hb2.size
 have c5':w2.cell? ⟨4,0,none⟩=some (iJ ev 5):=(hb2.cell (p:=⟨4,0,none⟩) (show 4<w.heap.size+2 by have:=hE.z5;omega)).trans c5
 have r0':w2.cell? ⟨w.heap.size+1,0,none⟩=some (.int .i64 0):=(hb2.cell (p:=⟨w.heap.size+1,0,none⟩) sI).trans r0
 have r1':w2.cell? ⟨w.heap.size+1,1,none⟩=some (.int .i64 0):=(hb2.cell (p:=⟨w.heap.size+1,1,none⟩) sI).trans r1
 have f0':w2.frozen? ⟨w.heap.size+1,0,none⟩=false:=(hb2.frozen (p:=⟨w.heap.size+1,0,none⟩) sI).trans f0
 have f1':w2.frozen? ⟨w.heap.size+1,1,none⟩=false:=(hb2.frozen (p:=⟨w.heap.size+1,1,none⟩) sI).trans f1
 clear c5 r0 r1 f0 f1 kc
 have z5':=hE.z5
 have ne5: ¬(w.heap.size+1=4):=om
 have ne5': ¬(4=w.heap.size+1):=om
 go_wp2
 go_region
 all_goals go_wp2
 all_goals
  have e0:=iE (.int .i64 0) r0'
  have e1:=iE (w:=w2.setCell ⟨w.heap.size+1,0,none⟩ (.int .i64 0)) (.int .i64 0) ((iy _ om).trans r1')
  have e2:=(iy (w:=w2.setCell ⟨w.heap.size+1,0,none⟩ (.int .i64 0)) (g:=w.heap.size+1) (o:=1) (o':=0) (.int .i64 0) om).trans e0
  exact bodyPost_ret (v:=.tuple #[.agg #[.int .i64 0,.int .i64 0],iJ ev 5]) (by simp[e0,e1,e2,results,Tryz.results123,go_sem]) rfl ⟨rfl,iq⟩
structure Ao (w:World) (b:Nat) (a m:Int):Prop where
 lt:b<w.heap.size
 c0:w.cell? ⟨b,0,none⟩=some (.int .i64 a)
 c1:w.cell? ⟨b,1,none⟩=some (.int .i64 m)
 f0:w.frozen? ⟨b,0,none⟩=false
 f1:w.frozen? ⟨b,1,none⟩=false
theorem Ao.keep {S:List Nat} {w w':World} {b:Nat} {a m:Int} (h:Ao w b a m) (k:Keep S w w') (hb:b∉S):Ao w' b a m:=
 ⟨aF h.lt k.size,(k.cell h.lt hb).trans h.c0,(k.cell h.lt hb).trans h.c1,(k.frozen h.lt hb).trans h.f0,(k.frozen h.lt hb).trans h.f1⟩
theorem Ao.new (w:World) (a m:Int) (t:TypeId):Ao (w.alloc (.cells #[.int .i64 a,.int .i64 m] t)) w.heap.size a m:=
 ⟨sI,by rw[aJ _ _ _ _ sI];rfl,by rw[aJ _ _ _ _ sI];rfl,bN _ _ _ _ sI,bN _ _ _ _ sI⟩
theorem Ao.store {w:World} {b:Nat} {a m:Int} (h:Ao w b a m) (a' m':Int):Ao ((w.setCell ⟨b,0,none⟩ (.int .i64 a')).setCell ⟨b,1,none⟩ (.int .i64 m')) b a' m':=by
 have e0:=iE (.int .i64 a') h.c0
 exact⟨by simpa[World.setCell] using h.lt,(iy (.int .i64 m') om).trans e0,iE _ ((iy _ om).trans h.c1),by rw[iB,iB];exact h.f0,by rw[iB,iB];exact h.f1⟩
theorem Keep.iW {S:List Nat} {w0 w:World} {b:Nat} (h:Keep S w0 w) (hb:b∈S∨w0.heap.size≤b) (u v:Value):Keep S w0 ((w.setCell ⟨b,0,none⟩ u).setCell ⟨b,1,none⟩ v):=(h.setCell (p:=⟨b,0,none⟩) hb u).setCell (p:=⟨b,1,none⟩) hb v
theorem Ap {k m:Int} {a:Int} {F:List (Int×Int)} (h:k<m):oU (m-k).toNat a k F=oU (m-1-k).toNat a k (lT (a+sz (m-1)) (m-1) F):=by
 obtain⟨d,hd⟩: ∃d,(m-k).toNat=d+1:=⟨(m-k).toNat-1,om⟩
 have e1:(m-1-k).toNat=d:=om
 have e2:k+(d:Int)=m-1:=om
 rw[hd,e1,oU,e2]
theorem oL.down0 {n:Int} {F T:List (Int×Int)} {a k:Int} (h:oL n F T (a,k)):A8 a k=0↔k≠0:=by
 obtain⟨b0,b1,b2,b3⟩:=h.blk
 have bn:=h.t.bound (aG ..)
 have:=jo k
 have:=h.n2
 simp only at b0 b1 b2 b3 bn
 have ha:jK a k=0:=Bq b0 om b1 b2 b3
 exact⟨fun q=>(tC q).2,fun q=>downE_mk ha q⟩
theorem take_ok {B:Nat} {ev:Nat→Addr} (pb:Nat) (n:Int) (bf bt:Nat) (F T:List (Int×Int)) (k:Int) (x:Int×Int) (w:World) (hE:qV B ev w) (hBf:B≤bf) (hb:Bud w pb n bf bt F T) (hI:Inv n F T) (k0:0≤k) (k6:k≤6) (h:jA k F=some x):
 Calls Tryz.prog 123 #[.pointer (some ⟨pb,0,none⟩),.int .i64 k] w fun e w'=>e= .returned (.tuple #[.agg #[.int .i64 x.1,.int .i64 k],.nilIface])∧Bud w' pb n bf bt (oV k x F) (lT x.1 k T)∧Keep [bf,bt] w w':=by
 have hB:=hE.size
 have hmf: ∀(fn:Fn) (first cap:Array Value) (w:World),(Instr.makeFunc fn first cap).run Tryz.prog w= .ok (.func fn first cap) w:=fun _ _ _ _=>rfl
 have c1:=hb.c1
 have lp:=hb.ltp
 have lf:=hb.ltf
 have lt:=hb.ltt
 have few:=hb.free.few
 obtain⟨y,r,hfit,hmin⟩:=vY h
 obtain⟨hxF,hkx⟩:=jq h
 have hIH:=hI.hand hxF
 have hfin:=hI.take k0 h
 have hrx:=hI.rngF hxF
 have FIT:=ah hfit;have MIN:=ah hmin;have IH:=ah hIH;have HB:=ah hb;have HI:=ah hI;have FIN:=ah hfin;have XF:=ah hxF
 have hfl:(yJ k F).length≤256:=cu (List.length_filter_le _ _) few
 rw[hfit] at hfl
 clear hb h hfit hmin hIH hfin hI hxF
 go_enter Tryz.func123,Tryz.ntmps123
 go_wp2_with (go_at_call 121;refine(uG _ _ ⟨k0,k6⟩).mono ?_;rintro e w' ⟨rfl,rfl⟩)
 refine(rJ bf F _ (HB.out.free.below (n:=w.heap.size) iq lf)).mono ?_
 rintro e w1 ⟨v,rfl,hv⟩
 have hb1:=hv.2
 have z1:=hb1.size
 simp at z1
 have kc:w1.cell? ⟨w.heap.size,0,none⟩=some (.int .i64 k):=(hb1.cell (p:=⟨w.heap.size,0,none⟩) (by first|omega|(simp;omega)|(simp;done))).trans (by rw[dA _ _ _ (by first|omega|(simp;omega)|(simp;done)),aJ _ _ _ _ sI];rfl)
 have r0:w1.cell? ⟨w.heap.size+1,0,none⟩=some (.int .i64 0):=(hb1.cell (p:=⟨w.heap.size+1,0,none⟩) (by first|omega|(simp;omega)|(simp;done))).trans (by rw[aJ _ _ _ _ sI];rfl)
 have r1:w1.cell? ⟨w.heap.size+1,1,none⟩=some (.int .i64 0):=(hb1.cell (p:=⟨w.heap.size+1,1,none⟩) (by first|omega|(simp;omega)|(simp;done))).trans (by rw[aJ _ _ _ _ sI];rfl)
 have f0:w1.frozen? ⟨w.heap.size+1,0,none⟩=false:=(hb1.frozen (p:=⟨w.heap.size+1,0,none⟩) sI).trans (bN _ _ _ _ sI)
 have f1:w1.frozen? ⟨w.heap.size+1,1,none⟩=false:=(hb1.frozen (p:=⟨w.heap.size+1,1,none⟩) sI).trans (bN _ _ _ _ sI)
 have K1:Keep [] w w1:=Keep.of (iq)
 have key: ∃g cap,w.heap.size+2≤g∧Calls Tryz.prog 216 #[v,vL w.heap.size] w1 fun e w'=>e= .returned (.slice (some ⟨g,0,none⟩) (y::r).length cap)∧rH w' g (y::r)∧Keep [g] w1 w'∧g<w'.heap.size:=by
  rcases hv.mrow with⟨rfl,hnil⟩|⟨g,cap,rfl,hg0,hg,hcap,hc⟩
  ·have:=XF.out
   rw[hnil] at this
   cases this
  ·have hg1:w.heap.size+2≤g:=by simpa using hg0
   have hcl:w.heap.size<w1.heap.size:=om
   have hcg:w.heap.size≠g:=om
   refine⟨g,cap,hg1,(yT g cap w.heap.size k F w1 hc hg few hcap kc hcl hcg).mono fun e w' ⟨h1,h2,h3⟩=> ?_⟩
   rw[FIT.out] at h1 h2
   exact⟨h1,h2,h3,by have:=h3.size;omega⟩
 obtain⟨g,cap,hg,key⟩:=key
 have KEY:=ah key
 clear key hv XF FIT
 unfold vL at KEY
 obtain⟨m,hm⟩: ∃m,m=(y::r).length:=⟨_,rfl⟩
 have hm1:1≤m:=by rw[hm];simp
 rw[←hm] at KEY hfl
 have hm0:((m:Int)==0)=false:=beq_eq_false_iff_ne.2 om
 have HM:=ah hm
 clear hm
 go_wp2_with fail
 refine KEY.out.mono ?_
 rintro e w2 ⟨rfl,row2,hk2,hg2⟩
 have z2:=hk2.size
 have r0':=(hk2.cell (b:=w.heap.size+1) (o:=0) (by first|omega|(simp;omega)|(simp;done)) (by simp;omega)).trans r0
 have r1':=(hk2.cell (b:=w.heap.size+1) (o:=1) (by first|omega|(simp;omega)|(simp;done)) (by simp;omega)).trans r1
 have f0':=(hk2.frozen (b:=w.heap.size+1) (o:=0) (by first|omega|(simp;omega)|(simp;done)) (by simp;omega)).trans f0
 have f1':=(hk2.frozen (b:=w.heap.size+1) (o:=1) (by first|omega|(simp;omega)|(simp;done)) (by simp;omega)).trans f1
 have kc':=(hk2.cell (b:=w.heap.size) (o:=0) (by first|omega|(simp;omega)|(simp;done)) (by simp;omega)).trans kc
 have K2:Keep [] w w2:=K1.trans hk2 (fun s hs=>.inr (by rw[dJ.1 hs];omega))
 have MF:=ah (minF_any g cap y r w2 row2 hg2 (by rw[←HM.out];exact hfl))
 rw[←HM.out,MIN.out] at MF
 clear kc r0 r1 f0 f1 hk2 row2
 go_wp2_with fail
 refine MF.out.mono ?_
 rintro e w3 ⟨rfl,hb3⟩
 clear MF hm0
 have z3:=hb3.size
 have K3:Keep [] w w3:=K2.step hb3
 have r0:=(hb3.cell (p:=⟨w.heap.size+1,0,none⟩) (by first|omega|(simp;omega)|(simp;done))).trans r0'
 have r1:=(hb3.cell (p:=⟨w.heap.size+1,1,none⟩) (by first|omega|(simp;omega)|(simp;done))).trans r1'
 have f0:=(hb3.frozen (p:=⟨w.heap.size+1,0,none⟩) (by first|omega|(simp;omega)|(simp;done))).trans f0'
 have f1:=(hb3.frozen (p:=⟨w.heap.size+1,1,none⟩) (by first|omega|(simp;omega)|(simp;done))).trans f1'
 have kc:=(hb3.cell (p:=⟨w.heap.size,0,none⟩) (by first|omega|(simp;omega)|(simp;done))).trans kc'
 clear r0' r1' f0' f1' kc'
 obtain⟨a,m0⟩:=x
 simp only at hrx hkx
 have L1:Ao w3 (w.heap.size+1) 0 0:=⟨om,r0,r1,f0,f1⟩
 have HL1:=ah L1
 have lp3:pb<w3.heap.size:=om
 have c1':=(K3.cell (o:=1) lp sI).trans c1
 have ka:Keep [] w3 ((w3.alloc (.cells #[.int .i64 a,.int .i64 m0] 59)).drew):=((Keep.refl _ _).alloc _).drew
 have M3:sZ ((w3.alloc (.cells #[.int .i64 a,.int .i64 m0] 59)).drew) bf F:=(HB.out.free.keep K3 sI).keep ka sI
 obtain⟨w4,hrun,hdrop,hturn⟩:=M3.drop (a:=a) (wfInt hrx.1 hrx.2.1) 0
 have ne3:bf≠w3.heap.size:=om
 have ne1:bf≠w.heap.size:=om
 have ne2:bf≠w.heap.size+1:=om
 have k34:Keep [bf] w3 w4:=(ka.mono (fun s q=>by cases q)).grown hturn.grown (.inl sI)
 have kb4:Keep [bf] ((w3.alloc (.cells #[.int .i64 a,.int .i64 m0] 59)).drew) w4:=(Keep.refl _ _).grown hturn.grown (.inl sI)
 have D:=ah hdrop
 have X4:=ah (((Ao.new w3 a m0 59).keep (Keep.drew (Keep.refl [] _)) sI).keep kb4 (by simpa using ne3.symm))
 have R4:=ah (L1.keep k34 (by simpa using ne2.symm))
 have O4:=ah ((k34.cell (b:=w.heap.size) (o:=0) om (by simpa using ne1.symm)).trans kc)
 have B4:=ah ((HB.out.keep K3 sI sI sI).turnF hdrop k34)
 have K4:Keep [bf] w w4:=(K3.mono (fun s q=>by cases q)).then k34
 clear hdrop hturn L1 r0 r1 f0 f1 kb4 M3 ka
 go_wp2_with fail
 refine jd 6 kR kR ?_
 simp only[aT,bq,aL,aW]
 repeat still_step
 refine wpStill_nil ?_
 go_wp2
 clear hrun kc c1' c1
 have z4:=k34.size
 have IH4:=ah (show oL n (mD a F) T (a,m0) from IH.out)
 have DF4:=ah (show oU (m0-k).toNat a k (mD a F)=oV k (a,m0) F from rfl)
 clear IH k34 HL1
 go_loopg [10,11,12] 7 (fun gg _ _ _ wr=>∃(q:Int) (F':List (Int×Int)),(q-k).toNat<gg∧k≤q∧q≤6∧Hid (Bud wr pb n bf bt F' T)∧Hid (oL n F' T (a,q))∧Hid (oU (q-k).toNat a k F'=oV k (a,m0) F)∧Hid (Ao wr w3.heap.size a q)∧Hid (Ao wr (w.heap.size+1) 0 0)
  ∧Hid (wr.cell? ⟨w.heap.size,0,none⟩=some (.int .i64 k))∧Keep [bf] w wr∧w3.heap.size<wr.heap.size)
 case atStart=>exact⟨m0,mD a F,om,hkx,om,B4,IH4,DF4,X4,R4,O4,K4,X4.out.lt⟩
 case round=>
  obtain⟨q,F',hgg,hkq,hq6,HBr,IHr,DFr,Xr,Rr,Or,Kr,zr⟩:=hrel
  clear B4 IH4 DF4 X4 R4 O4 K4
  have x0:=Xr.out.c0;have x1:=Xr.out.c1
  have o0:=Or.out
  by_cases hlt:k<q
  ·have hcut:=oL.cut (n:=n) (F:=F') (T:=T) (a:=a) (k:=q-1) om (by rw[show q-1+1=q by omega];exact IHr.out)
   have hdn:=(oL.down0 IHr.out).2 om
   have hEr:qV B ev wr:=hE.below (Kr.below (B:=B) om (fun s hs=>by rw[dJ.1 hs];exact hBf))
   have hrg:=hcut.rng (p:=(a+sz (q-1),q-1)) (au _ (av _ ((uF IHr.out.fa).2 (.inl rfl))))
   have hln:=qc hcut.fa (fun p hp=>hcut.rng (au _ (av _ hp)))
   have CUT:=ah hcut
   have HO:=ah (Bw a q wr hEr hdn)
   clear hcut hdn hEr
   go_wp2_with fail
   refine HO.out.mono ?_
   rintro e w5 ⟨rfl,hb5⟩
   clear HO
   have z5:=hb5.size
   have q1:=(hb5.cell (p:=⟨pb,1,none⟩) (show pb<wr.heap.size by omega)).trans HBr.out.c1
   have lp5:pb<w5.heap.size:=om
   have ka:Keep [] w5 (((w5.alloc (.cells #[.int .i64 a,.int .i64 (q-1)] 59)).alloc (.cells #[.int .i64 (a+sz (q-1)),.int .i64 (q-1)] 59)).drew):=(((Keep.refl _ _).alloc _).alloc _).drew
   have kr5:Keep [] wr w5:=Keep.of hb5
   have B5:=HBr.out.keep kr5 sI sI sI
   obtain⟨w7,hrun,hput,hgr⟩:=(B5.free.keep ka sI).put hrg hln
   have k57:Keep [bf] w5 w7:=(ka.mono (fun s q=>by cases q)).grown hgr (.inl sI)
   have z7:=k57.size
   have kl:Keep [bf] (((w5.alloc (.cells #[.int .i64 a,.int .i64 (q-1)] 59)).alloc (.cells #[.int .i64 (a+sz (q-1)),.int .i64 (q-1)] 59)).drew) w7:=(Keep.refl _ _).grown hgr (.inl sI)
   have nl:w5.heap.size≠bf:=om
   have LO:=((Ao.new w5 a (q-1) 59).keep (((Keep.refl [] _).alloc (.cells #[.int .i64 (a+sz (q-1)),.int .i64 (q-1)] 59)).drew) sI).keep kl (by simpa using nl)
   have l0:=LO.c0;have l1:=LO.c1
   have kr7:Keep [bf] wr w7:=(kr5.mono (fun s q=>by cases q)).then k57
   have X7:=Xr.out.keep kr7 (by simpa using ne3.symm)
   have R7:=Rr.out.keep kr7 (by simpa using ne2.symm)
   have x2:=X7.c0;have x3:=X7.c1;have x4:=X7.f0;have x5:=X7.f1
   have B7:=B5.turnF hput k57
   have O7:=(kr7.cell (b:=w.heap.size) (o:=0) om (by simpa using ne1.symm)).trans o0
   have np:pb≠w3.heap.size:=om
   have nt':bt≠w3.heap.size:=om
   have nw1:w.heap.size≠w3.heap.size:=om
   have nw2:w.heap.size+1≠w3.heap.size:=om
   have ks:Keep [w3.heap.size] w7 ((w7.setCell ⟨w3.heap.size,0,none⟩ (.int .i64 a)).setCell ⟨w3.heap.size,1,none⟩ (.int .i64 (q-1))):=(Keep.refl _ _).iW (.inl sI) _ _
   have B8:=ah (B7.keep ks (by simpa using np) (by simpa using ne3) (by simpa using nt'))
   have X8:=ah (X7.store a (q-1))
   have R8:=ah (R7.keep ks (by simpa using nw2))
   have O8:=ah ((ks.cell (b:=w.heap.size) (o:=0) om (by simpa using nw1)).trans O7)
   have K8:=ah ((Kr.then kr7).iW (b:=w3.heap.size) (.inr om) (.int .i64 a) (.int .i64 (q-1)))
   clear hput hgr ka kr5 B5 k57 kl LO kr7 X7 R7 B7 O7 ks o0 x0 x1 hrg hln
   go_wp2_with fail
   refine jd 8 kR kR ?_
   simp only[aT,bq,aL,aW]
   repeat still_step
   refine wpStill_nil ?_
   go_wp2
   go_roundg ((q-1-k).toNat+1)
   case measure=>omega
   case rel=>exact⟨q-1,_,om,om,om,B8,CUT,by rw[←DFr.out,Ap hlt];rfl,X8,R8,O8,K8.out,by simp[World.setCell];omega⟩
  ·have eq:q=k:=by omega
   subst eq
   have hput:=IHr.out
   have e0:(q-q).toNat=0:=om
   have hF:F'=oV q (a,m0) F:=by have:=DFr.out;rwa [e0] at this
   have br:=HBr.out
   have c2:=br.c2
   have lpr:pb<wr.heap.size:=om
   have ka:Keep [] wr wr.drew:=(Keep.refl _ _).drew
   have hrg:=hput.rng (p:=(a,q)) (aG ..)
   have hln:=qc hput.putT.ta (fun p hp=>hput.putT.rngT hp)
   obtain⟨w7,hrun,hpt,hgr⟩:=(br.taken.keep ka sI).put hrg hln
   have k7:Keep [bt] wr w7:=(ka.mono (fun s q=>by cases q)).grown hgr (.inl sI)
   have nt1:w3.heap.size≠bt:=om
   have nt2:w.heap.size+1≠bt:=om
   have X7:=Xr.out.keep k7 (by simpa using nt1)
   have R7:=Rr.out.keep k7 (by simpa using nt2)
   have x2:=X7.c0;have x3:=X7.c1
   have y0:=R7.c0;have y1:=R7.c1;have y2:=R7.f0;have y3:=R7.f1
   have B7:=br.turnT hpt k7
   have K7:Keep [bf,bt] w w7:=(Kr.mono (fun s hs=>by simp at hs ⊢;exact .inl hs)).then (k7.mono (fun s hs=>by simp at hs ⊢;exact .inr hs))
   have np:pb≠w.heap.size+1:=om
   have nf:bf≠w.heap.size+1:=om
   have nt':bt≠w.heap.size+1:=om
   have ks:Keep [w.heap.size+1] w7 ((w7.setCell ⟨w.heap.size+1,0,none⟩ (.int .i64 a)).setCell ⟨w.heap.size+1,1,none⟩ (.int .i64 q)):=(Keep.refl _ _).iW (.inl sI) _ _
   have B8:=B7.keep ks (by simpa using np) (by simpa using nf) (by simpa using nt')
   rw[hF] at B8
   have HB8:=ah B8
   have R8:=R7.store a q
   have rc0:=R8.c0;have rc1:=R8.c1
   have K8:=ah (K7.iW (b:=w.heap.size+1) (.inr om) (.int .i64 a) (.int .i64 q))
   have RR:=ah R8
   clear hput hF br hrg hln hpt hgr k7 X7 R7 B7 K7 ks B8 ka R8
   have hnlt: ¬q<q:=om
   go_wp2_with fail
   refine jd 8 kR kR ?_
   simp only[aT,bq,aL,aW]
   repeat still_step
   refine wpStill_nil ?_
   go_wp2
   have e0:=iE (.int .i64 a) y0
   exact bodyPost_ret (v:=.tuple #[.agg #[.int .i64 a,.int .i64 q],.nilIface]) (by simp[e0,rc0,rc1,results,Tryz.results123,go_sem]) rfl ⟨rfl,HB8.out,K8.out⟩
end
section
open Go.RowKit Go.Maps
def upP (a k:Int) (F:List (Int×Int)):List (Int×Int):=lT (upF (6-k).toNat a k F).1.1 (upF (6-k).toNat a k F).1.2 (upF (6-k).toNat a k F).2
end
section
open Go.RowKit Go.Extern.Stop Go.Stop Go.Extern
theorem xV (v:Value) (w:World):(Extern.ReflectliteType.typeOf #[.iface 434 v]).run Tryz.prog w= .ok (.iface 391 (.agg #[.pointer (some ⟨11,434,none⟩)])) w:=kR
theorem sw (w:World):((Extern.ReflectliteType.method fun t=>do Rtype.noPackHeld "Comparable" t;(fun a=>Value.bool a.comparable)<$>typeInfo t) #[.agg #[.pointer (some ⟨11,434,none⟩)]]).run Tryz.prog w= .ok (.bool true) w:=kR
theorem lI (v:Value) (w:World):(Go.method 571 391 v "Comparable").run Tryz.prog w= .ok (327,v) w:=kR
theorem wComp:(Tryz.prog.info? 434).map (·.comparable)=some true:=kR
theorem wSize:(Tryz.prog.info? 454).map (·.size)=some 1:=kR
theorem wNoIs (v:Value) (xT:TypeId) (w:World):(Instr.typeAssert (.iface 434 v) xT 393 true).run Tryz.prog w= .ok (.tuple #[.nilIface,.bool false]) w:=run_typeAssert_lacksB Tryz.underlying393 kR kR v xT w
theorem wNoAs (v:Value) (xT:TypeId) (w:World):(Instr.typeAssert (.iface 434 v) xT 408 true).run Tryz.prog w= .ok (.tuple #[.nilIface,.bool false]) w:=run_typeAssert_lacksB Tryz.underlying408 kR kR v xT w
theorem wh (v:Value) (xT:TypeId) (w:World):(Instr.typeAssert (.iface 434 v) xT 396 true).run Tryz.prog w= .ok (.tuple #[.nilIface,.bool false]) w:=run_typeAssert_lacksB Tryz.underlying396 kR kR v xT w
theorem ug (v:Value) (xT:TypeId) (w:World):(Instr.typeAssert (.iface 434 v) xT 397 true).run Tryz.prog w= .ok (.tuple #[.nilIface,.bool false]) w:=run_typeAssert_lacksB Tryz.underlying397 kR kR v xT w
theorem is_same (a:Addr) (w:World):
 Calls Tryz.prog 157 #[.iface 434 (.pointer (some a)),.iface 434 (.pointer (some a))] w fun e w'=>e= .returned (.bool true)∧w=w':=by
 obtain⟨i,hi,hcmp⟩:=cO.1 wComp
 obtain⟨j,hj,hjs⟩:=cO.1 wSize
 have h8:= @run_callFunc_extern Tryz.prog 236 _ Extern.ReflectliteType.typeOf Tryz.func236 kR kR kR kR
 have h32:= @run_callFunc_extern Tryz.prog 327 _ (Extern.ReflectliteType.method fun t=>do Rtype.noPackHeld "Comparable" t;pure (.bool (←typeInfo t).comparable)) Tryz.func327 kR kR kR kR
 have tT:=xV
 have cT:=sw
 have mR:=lI
 have heq:=run_eql_iface_ptr_same (P:=Tryz.prog) w a gG Tryz.underlying434 hi hcmp hj
 go_enter Tryz.func157,Tryz.ntmps157
 go_wp2
 refine wp_loop_rounds 1 ?_
 rw[rounds_succ]
 go_wp2
 go_ret
 exact⟨rfl,rfl⟩
theorem is_other (a b:Addr) (ca cb:Array Value) (ta tb:TypeId) (w:World) (hne:a≠b) (ha:w.heap[a.block]?=some (.cells ca ta (0,0))) (hb:w.heap[b.block]?=some (.cells cb tb (0,0))):
 Calls Tryz.prog 157 #[.iface 434 (.pointer (some a)),.iface 434 (.pointer (some b))] w fun e w'=>e= .returned (.bool false)∧w=w':=by
 obtain⟨i,hi,hcmp⟩:=cO.1 wComp
 obtain⟨j,hj,hjs⟩:=cO.1 wSize
 have h8:= @run_callFunc_extern Tryz.prog 236 _ Extern.ReflectliteType.typeOf Tryz.func236 kR kR kR kR
 have h32:= @run_callFunc_extern Tryz.prog 327 _ (Extern.ReflectliteType.method fun t=>do Rtype.noPackHeld "Comparable" t;pure (.bool (←typeInfo t).comparable)) Tryz.func327 kR kR kR kR
 have tT:=xV
 have cT:=sw
 have mR:=lI
 have nE:=wNoIs
 have uE:=wh
 have vE:=ug
 have heq:=run_eql_iface_ptr_other (P:=Tryz.prog) w gG Tryz.underlying434 hi hcmp hj (by rw[hjs];decide) hne ha hb
 go_enter Tryz.func157,Tryz.ntmps157
 go_wp2
 refine wp_loop_rounds 1 ?_
 rw[rounds_succ]
 go_wp2
 go_ret
 exact⟨rfl,rfl⟩
theorem xValueOf (t:Addr) (w:World):(ReflectliteValue.unpack (.iface 334 (.pointer (some t)))).run Tryz.prog w
 = .ok (.agg #[.pointer (some ⟨11,334,none⟩),.pointer (some ⟨w.heap.size,0,none⟩),.int .u64 150]) (w.alloc (.cells #[.pointer (some t)] 334)):=kR
theorem xType (a:Addr) (w:World):(ReflectliteValue.methodAny (ReflectliteValue.valueError "reflectlite.Value.Type" 0) (fun t _ _ _=>ReflectliteType.toType t) #[.agg #[.pointer (some ⟨11,334,none⟩),.pointer (some a),.int .u64 150]]).run Tryz.prog w
 = .ok (.iface 391 (.agg #[.pointer (some ⟨11,334,none⟩)])) w:=kR
theorem xW (h:Value) (w:World):(Go.method 571 391 (.agg #[h]) "Kind").run Tryz.prog w= .ok (314,h) w:=kR
theorem xKindPP (w:World):((ReflectliteType.abiMethod fun t=>(fun a:Nat=>Value.int IntKind.u8 (a:Int))<$>Rtype.kind t) #[.pointer (some ⟨11,334,none⟩)]).run Tryz.prog w= .ok (.int .u8 22) w:=kR
theorem xKindP (w:World):((ReflectliteType.abiMethod fun t=>(fun a:Nat=>Value.int IntKind.u8 (a:Int))<$>Rtype.kind t) #[.pointer (some ⟨11,332,none⟩)]).run Tryz.prog w= .ok (.int .u8 22) w:=kR
theorem xrlm (z:Sem Value) (f:TypeId→Addr→Nat→Nat→Sem Value) (v:Value):
 ReflectliteValue.method z f #[v]=(do match ←ReflectliteValue.parts v with|none=>z|some (t,a,fl)=>f t a fl (fl % 32)):=rfl
theorem xParts (a:Addr) (w:World):(ReflectliteValue.parts (.agg #[.pointer (some ⟨11,334,none⟩),.pointer (some a),.int .u64 150])).run Tryz.prog w= .ok (some (334,a,150)) w:=kR
theorem xIsNil (a p:Addr) (W:World) (ha:W.cell? a=some (.pointer (some p))):
 (ReflectliteValue.method (ReflectliteValue.valueError "reflectlite.Value.IsNil" 0) ReflectliteValue.isNil #[.agg #[.pointer (some ⟨11,334,none⟩),.pointer (some a),.int .u64 150]]).run Tryz.prog W= .ok (.bool false) W:=by
 rw[xrlm]
 simp only[fT,xParts,Result.andThen]
 simp[ReflectliteValue.isNil,loadVar,isAgg,underlying,Tryz.underlying334,ha,Result.andThen]
theorem xX (h:Value) (w:World):(Go.method 571 391 (.agg #[h]) "Elem").run Tryz.prog w= .ok (328,.agg #[h]) w:=kR
theorem qz (h:Value) (w:World):(Go.method 571 391 (.agg #[h]) "Implements").run Tryz.prog w= .ok (329,.agg #[h]) w:=kR
theorem oC (h:Value) (w:World):(Go.method 571 391 (.agg #[h]) "AssignableTo").run Tryz.prog w= .ok (326,.agg #[h]) w:=kR
theorem xElem (w:World):(ReflectliteType.method ReflectliteType.elem #[.agg #[.pointer (some ⟨11,334,none⟩)]]).run Tryz.prog w= .ok (.iface 391 (.agg #[.pointer (some ⟨11,332,none⟩)])) w:=kR
theorem xY (w:World):(ReflectliteType.relation "Implements" ReflectliteType.implements_ #[.agg #[.pointer (some ⟨11,332,none⟩)],.iface 391 (.agg #[.pointer (some ⟨11,33,none⟩)])]).run Tryz.prog w= .ok (.bool true) w:=kR
theorem Cn (w:World):(ReflectliteType.relation "AssignableTo" ReflectliteType.assignableTo #[.agg #[.pointer (some ⟨11,434,none⟩)],.iface 391 (.agg #[.pointer (some ⟨11,332,none⟩)])]).run Tryz.prog w= .ok (.bool false) w:=kR
theorem as_miss {B:Nat} {ev:Nat→Addr} (e t:Addr) (w:World) (hE:mg B ev w):
 Calls Tryz.prog 209 #[.iface 434 (.pointer (some e)),.iface 334 (.pointer (some t))] w fun ev w'=>ev= .returned (.bool false)∧Below w.heap.size w w':=by
 have hg:=hE.typ
 have hB:=hE.size
 have hlt:10<w.heap.size:=aF hE.globT hE.size
 have h6:= @run_callFunc_extern Tryz.prog 248 _ (fun args=>ReflectliteValue.unpack (args.getD 0 (.tuple #[]))) Tryz.func248 kR kR kR kR
 have h7:= @run_callFunc_extern Tryz.prog 249 _ (ReflectliteValue.methodAny (ReflectliteValue.valueError "reflectlite.Value.Type" 0) (fun t _ _ _=>ReflectliteType.toType t)) Tryz.func249 kR kR kR kR
 have h8:= @run_callFunc_extern Tryz.prog 250 _ (ReflectliteValue.method (ReflectliteValue.valueError "reflectlite.Value.IsNil" 0) ReflectliteValue.isNil) Tryz.func250 kR kR kR kR
 have h27:= @run_callFunc_extern Tryz.prog 314 _ (ReflectliteType.abiMethod fun t=>do pure (.int .u8 (←Rtype.kind t))) Tryz.func314 kR kR kR kR
 have h37:= @run_callFunc_extern Tryz.prog 328 _ (ReflectliteType.method ReflectliteType.elem) Tryz.func328 kR kR kR kR
 have h38:= @run_callFunc_extern Tryz.prog 329 _ (ReflectliteType.relation "Implements" ReflectliteType.implements_) Tryz.func329 kR kR kR kR
 have h10:= @run_callFunc_extern Tryz.prog 236 _ ReflectliteType.typeOf Tryz.func236 kR kR kR kR
 have h35:= @run_callFunc_extern Tryz.prog 326 _ (ReflectliteType.relation "AssignableTo" ReflectliteType.assignableTo) Tryz.func326 kR kR kR kR
 have tO:=xV
 have mA:=oC
 have aN:=Cn
 have f6:=xValueOf
 have f7:=xType
 have mK:=xW
 have mE:=xX
 have mI:=qz
 have k27:=xKindPP
 have k25:=xKindP
 have e27:=xElem
 have i25:=xY
 have nA:=wNoAs
 have nU:=wh
 have nV:=ug
 have n8:=xIsNil ⟨w.heap.size,0,none⟩ t ((w.alloc (.cells #[.pointer (some t)] 334)).alloc (.cells #[.pointer (some ⟨11,334,none⟩),.pointer (some ⟨w.heap.size,0,none⟩),.int .u64 150] 372)) sI
 have hg2:((w.alloc (.cells #[.pointer (some t)] 334)).alloc (.cells #[.pointer (some ⟨11,334,none⟩),.pointer (some ⟨w.heap.size,0,none⟩),.int .u64 150] 372)).cell? ⟨10,0,none⟩=some (.iface 391 (.agg #[.pointer (some ⟨11,33,none⟩)])):=by
  rw[World.cell?_alloc_lt _ _ ⟨10,0,none⟩ (by simp;omega),World.cell?_alloc_lt _ _ ⟨10,0,none⟩ hlt];exact hg
 go_enter Tryz.func209,Tryz.ntmps209
 go_wp2
 refine wp_loop_rounds 1 ?_
 rw[rounds_succ]
 go_wp2
 go_ret
 exact⟨rfl,iq⟩
end
section
open Go.RowKit
theorem code_nil (w:World):Calls Tryz.prog 112 #[.nilIface] w fun e w'=>e= .returned (.tuple #[.int .i64 0,.int .i64 (-1)])∧w=w':=by
 go_enter Tryz.func112,Tryz.ntmps112
 go_wp2
 go_ret2
 exact⟨rfl,rfl⟩
theorem qA {B:Nat} {ev:Nat→Addr} (i j:Nat) (w:World) (hE:mg B ev w) (i1:1≤i) (i2:i≤10) (j1:1≤j) (j2:j≤10):
 Calls Tryz.prog 157 #[.iface 434 (.pointer (some (ev i))),.iface 434 (.pointer (some (ev j)))] w fun e w'=>e= .returned (.bool (decide (i=j)))∧w=w':=by
 by_cases h:i=j
 ·subst h
  rw[decide_eq_true rfl]
  exact is_same _ w
 ·rw[decide_eq_false h]
  obtain⟨ca,ta,ha⟩:=hE.row i i1 i2
  obtain⟨cb,tb,hb⟩:=hE.row j j1 j2
  exact is_other _ _ ca cb ta tb w (fun e=>h (hE.inj i j i1 i2 j1 j2 e)) ha hb
theorem Co {B:Nat} {ev:Nat→Addr} (i:Nat) (w:World) (hE:mg B ev w) (i1:1≤i) (i2:i≤10):
 Calls Tryz.prog 112 #[.iface 434 (.pointer (some (ev i)))] w fun e w'=>e= .returned (.tuple #[.int .i64 i,.int .i64 (-1)])∧Below w.heap.size w w':=by
 have hB:=hE.size
 go_enter Tryz.func112,Tryz.ntmps112
 go_wp2_with fail
 refine(as_miss _ _ _ (hE.below iq)).mono ?_
 rintro e w1 ⟨rfl,hb1⟩;obtain⟨c1,f1⟩:=rG hb1;have z1:=hb1.size;try simp at z1 c1 f1
 have hE1:mg B ev w1:=hE.below iq
 have g1:=hE1.cell 1 (by decide) (by decide)
 have g2:=hE1.cell 2 (by decide) (by decide)
 have g3:=hE1.cell 3 (by decide) (by decide)
 have g4:=hE1.cell 4 (by decide) (by decide)
 have g5:=hE1.cell 5 (by decide) (by decide)
 have g6:=hE1.cell 6 (by decide) (by decide)
 have g7:=hE1.cell 7 (by decide) (by decide)
 have g8:=hE1.cell 8 (by decide) (by decide)
 have g9:=hE1.cell 9 (by decide) (by decide)
 have g10:=hE1.cell 10 (by decide) (by decide)
 simp only[errG,iJ] at g1 g2 g3 g4 g5 g6 g7 g8 g9 g10
 clear c1 f1
 have cells: ∀k,k<10→(w1.alloc (.cells #[.iface 434 (.pointer (some (ev 1))),.iface 434 (.pointer (some (ev 2))),.iface 434 (.pointer (some (ev 3))),.iface 434 (.pointer (some (ev 4))),.iface 434 (.pointer (some (ev 5))),.iface 434 (.pointer (some (ev 6))),.iface 434 (.pointer (some (ev 7))),.iface 434 (.pointer (some (ev 8))),.iface 434 (.pointer (some (ev 9))),.iface 434 (.pointer (some (ev 10)))] 33)).cell? ⟨w1.heap.size,k,none⟩=some (.iface 434 (.pointer (some (ev (k+1))))):=by
  intro k hk
  rw[aJ _ _ _ _ rfl]
  match k,hk with
  |0,_=>rfl
  |1,_=>rfl
  |2,_=>rfl
  |3,_=>rfl
  |4,_=>rfl
  |5,_=>rfl
  |6,_=>rfl
  |7,_=>rfl
  |8,_=>rfl
  |9,_=>rfl
 have CC:=ah cells
 clear cells
 go_wp2
 go_loop [3,28] (fun a s=>∃k:Nat,k<i∧s= .int .i64 k∧a= .int .i64 (-1)) (fun _ s=>i-(intOf s).toNat)
 case atStart=>exact⟨0,om,rfl,rfl⟩
 case round=>
  obtain⟨k,hk,rfl,rfl⟩:=hrel
  have hck:=CC.out k om
  have hki:(k:Int)<10:=om
  by_cases hlt:k+1<i
  ·have hd:decide (i=k+1)=false:=decide_eq_false om
   have isK:=qA i (k+1) (w1.alloc (.cells #[.iface 434 (.pointer (some (ev 1))),.iface 434 (.pointer (some (ev 2))),.iface 434 (.pointer (some (ev 3))),.iface 434 (.pointer (some (ev 4))),.iface 434 (.pointer (some (ev 5))),.iface 434 (.pointer (some (ev 6))),.iface 434 (.pointer (some (ev 7))),.iface 434 (.pointer (some (ev 8))),.iface 434 (.pointer (some (ev 9))),.iface 434 (.pointer (some (ev 10)))] 33)) (hE1.below iq) i1 i2 om om
   rw[hd] at isK
   have IK:=ah isK
   clear isK hd
   go_wp2_with (go_at_call 157;refine IK.out.mono ?_;rintro e w' ⟨rfl,rfl⟩)
   go_round
   case rel=>exact⟨k+1,om,by go_num,rfl⟩
   case measure=>simp[intOf];omega
  ·have hd:decide (i=k+1)=true:=decide_eq_true om
   have isK:=qA i (k+1) (w1.alloc (.cells #[.iface 434 (.pointer (some (ev 1))),.iface 434 (.pointer (some (ev 2))),.iface 434 (.pointer (some (ev 3))),.iface 434 (.pointer (some (ev 4))),.iface 434 (.pointer (some (ev 5))),.iface 434 (.pointer (some (ev 6))),.iface 434 (.pointer (some (ev 7))),.iface 434 (.pointer (some (ev 8))),.iface 434 (.pointer (some (ev 9))),.iface 434 (.pointer (some (ev 10)))] 33)) (hE1.below iq) i1 i2 om om
   rw[hd] at isK
   have IK:=ah isK
   clear isK hd
   go_wp2_with (go_at_call 157;refine IK.out.mono ?_;rintro e w' ⟨rfl,rfl⟩)
   go_ret2
   have e1:i=k+1:=om
   exact⟨by rw[show(i:Int)=(k:Int)+1 from om];rfl,iq⟩
theorem code_any {B:Nat} {ev:Nat→Addr} (i:Nat) (w:World) (hE:mg B ev w) (i2:i≤10):
 Calls Tryz.prog 112 #[iJ ev i] w fun e w'=>e= .returned (.tuple #[.int .i64 i,.int .i64 (-1)])∧Below w.heap.size w w':=by
 rcases i with _|i
 ·exact(code_nil w).mono fun e w' ⟨h1,h2⟩=>⟨h1,by rw[←h2];exact aU _ _⟩
 ·exact Co (i+1) w hE om i2
theorem mg.go {B:Nat} {ev:Nat→Addr} {w w':World} (h:mg B ev w) (hb:Below w.heap.size w w'):mg B ev w':=h.below (hb.mono h.size)
end
end Go.Proofs.YtdcbhlcbiokbeaaGreatDoor
