/- Lemmas and contracts for the claim's last text: BudW, SOps. -/
import Derived.Test.YtehhldljdakgeaaGreatDoorQa01
import Derived.Test.YtehhldljdakgeaaGreatDoorQa08
set_option linter.unusedSimpArgs false
set_option linter.unusedVariables false
set_option maxHeartbeats 16000000
set_option maxRecDepth 100000
namespace Go.Proofs.YtehhldljdakgeaaGreatDoor
open Go.RowKit Go.Maps
attribute [local go_sem ↓] aJ aK
theorem I7 {k:Int} {F:List (Int×Int)} (h:mq k F=none):Bv k F=[]:=by
 unfold mq at h;split at h
 ·assumption
 ·cases h
theorem Fj {k:Int} {F:List (Int×Int)} {x:Int×Int} (h:mq k F=some x): ∃y r,Bv k F=y::r∧yI y r=x:=by
 unfold mq at h;split at h
 ·cases h
 ·rename_i y r e
  exact⟨y,r,e,aI h⟩
theorem TH {B:Nat} {ev:Nat→Addr} (pb:Nat) (n:Int) (bf bt:Nat) (F T:List (Int×Int)) (k:Int) (w:World) (hE:SE B ev w) (hb:Bud w pb n bf bt F T) (k0:0≤k) (k6:k≤6) (h:mq k F=none):
 Calls Tryz.prog 162 #[.pointer (some ⟨pb,0,none⟩),.int .i64 k] w fun e w'=>e= .returned (.tuple #[.agg #[.int .i64 0,.int .i64 0],jW ev 5])∧Below w.heap.size w w':=by
 have hB:=hE.size;have hmf: ∀(fn:Fn) (first cap:Array Value) (w:World),(Instr.makeFunc fn first cap).run Tryz.prog w= .ok (.func fn first cap) w:=fun _ _ _ _=>rfl
 have c1:=hb.c1;have lp:=hb.ltp;have HF:=ah hb.free;have lf:=hb.ltf;have few:=hb.free.few;have fit:=I7 h;have FIT:=ah fit;clear hb h fit;go_enter Tryz.func162,Tryz.ntmps162;go_wp2_with (go_at_call 160;refine(Dx _ _ ⟨k0,k6⟩).mono ?_;rintro e w' ⟨rfl,rfl⟩);refine(zQ bf F _ (HF.out.below (n:=w.heap.size) jK lf)).mono ?_;rintro e w1 ⟨v,rfl,hv⟩;have hb1:=hv.2;have z1:=hb1.size;simp at z1;have kc:w1.cell? ⟨w.heap.size,0,none⟩=some (.int .i64 k):=(hb1.cell (p:=⟨w.heap.size,0,none⟩) (by first|omega|(simp;omega)|(simp;done))).trans (by rw[eD _ _ _ (by first|omega|(simp;omega)|(simp;done)),aZ _ _ _ _ sI];rfl);have r0:w1.cell? ⟨w.heap.size+1,0,none⟩=some (.int .i64 0):=(hb1.cell (p:=⟨w.heap.size+1,0,none⟩) (by first|omega|(simp;omega)|(simp;done))).trans (by rw[aZ _ _ _ _ sI];rfl);have r1:w1.cell? ⟨w.heap.size+1,1,none⟩=some (.int .i64 0):=(hb1.cell (p:=⟨w.heap.size+1,1,none⟩) sI).trans (by rw[aZ _ _ _ _ sI];rfl);have f0:w1.frozen? ⟨w.heap.size+1,0,none⟩=false:=(hb1.frozen (p:=⟨w.heap.size+1,0,none⟩) sI).trans (cZ _ _ _ _ sI);have f1:w1.frozen? ⟨w.heap.size+1,1,none⟩=false:=(hb1.frozen (p:=⟨w.heap.size+1,1,none⟩) sI).trans (cZ _ _ _ _ sI);have hE1:SE B ev w1:=hE.below jK;have K1:Below w.heap.size w w1:=jK;have z5:=hE1.z5;have c5:=hE1.c5;have HE1:=ah hE1;have key:Calls Tryz.prog 189 #[v,EZ w.heap.size] w1 fun e w'=>∃p c,e= .returned (.slice p 0 c)∧Below (w.heap.size+2) w1 w':=by
  rcases hv.mrow with⟨rfl,hnil⟩|⟨g,cap,rfl,hg0,hg,hcap,hc⟩
  ·exact(delF_nil _ _).mono fun e w' ⟨h1,h2⟩=>⟨_,_,h1,by rw[←h2];exact aO _ _⟩
  ·have hg1:w.heap.size+2≤g:=by simpa using hg0
   have hcl:w.heap.size<w1.heap.size:=om;have hcg:w.heap.size≠g:=om;refine(Nu g cap w.heap.size k F w1 hc hg few hcap kc hcl hcg).mono fun e w' ⟨h1,_,h3⟩=> ?_
   rw[FIT.out] at h1;exact⟨_,_,h1,h3.below om (fun s hs=>by rw[bN.1 hs];exact hg1)⟩
 have KEY:=ah key;clear key hv;unfold EZ at KEY;go_wp2_with fail;refine KEY.out.mono ?_;rintro e w2 ⟨p,c,rfl,hb2⟩;have z2:=hb2.size;have c5':w2.cell? ⟨4,0,none⟩=some (jW ev 5):=(hb2.cell (p:=⟨4,0,none⟩) (show 4<w.heap.size+2 by have:=hE.z5;omega)).trans c5;have r0':w2.cell? ⟨w.heap.size+1,0,none⟩=some (.int .i64 0):=(hb2.cell (p:=⟨w.heap.size+1,0,none⟩) sI).trans r0;have r1':w2.cell? ⟨w.heap.size+1,1,none⟩=some (.int .i64 0):=(hb2.cell (p:=⟨w.heap.size+1,1,none⟩) sI).trans r1;have f0':w2.frozen? ⟨w.heap.size+1,0,none⟩=false:=(hb2.frozen (p:=⟨w.heap.size+1,0,none⟩) sI).trans f0;have f1':w2.frozen? ⟨w.heap.size+1,1,none⟩=false:=(hb2.frozen (p:=⟨w.heap.size+1,1,none⟩) sI).trans f1;clear c5 r0 r1 f0 f1 kc;have z5':=hE.z5;have ne5: ¬(w.heap.size+1=4):=om;have ne5': ¬(4=w.heap.size+1):=om;go_wp2;go_region
 all_goals go_wp2
 all_goals
  have e0:=jY (.int .i64 0) r0';have e1:=jY (w:=w2.setCell ⟨w.heap.size+1,0,none⟩ (.int .i64 0)) (.int .i64 0) ((jM _ om).trans r1');have e2:=(jM (w:=w2.setCell ⟨w.heap.size+1,0,none⟩ (.int .i64 0)) (g:=w.heap.size+1) (o:=1) (o':=0) (.int .i64 0) om).trans e0;exact bodyPost_ret (v:=.tuple #[.agg #[.int .i64 0,.int .i64 0],jW ev 5]) (by simp[e0,e1,e2,results,Tryz.results162,go_sem]) rfl ⟨rfl,jK⟩
structure vV (w:World) (b:Nat) (a m:Int):Prop where
 lt:b<w.heap.size
 c0:w.cell? ⟨b,0,none⟩=some (.int .i64 a)
 c1:w.cell? ⟨b,1,none⟩=some (.int .i64 m)
 f0:w.frozen? ⟨b,0,none⟩=false
 f1:w.frozen? ⟨b,1,none⟩=false
theorem vV.keep {S:List Nat} {w w':World} {b:Nat} {a m:Int} (h:vV w b a m) (k:Keep S w w') (hb:b∉S):vV w' b a m:=
 ⟨aC h.lt k.size,(k.cell h.lt hb).trans h.c0,(k.cell h.lt hb).trans h.c1,(k.frozen h.lt hb).trans h.f0,(k.frozen h.lt hb).trans h.f1⟩
theorem vV.below {w w':World} {b:Nat} {a m:Int} (h:vV w b a m) {n:Nat} (k:Below n w w') (hb:b<n):vV w' b a m:=
 ⟨aC h.lt k.size,(k.cell (p:=⟨b,0,none⟩) hb).trans h.c0,(k.cell (p:=⟨b,1,none⟩) hb).trans h.c1,(k.frozen (p:=⟨b,0,none⟩) hb).trans h.f0,(k.frozen (p:=⟨b,1,none⟩) hb).trans h.f1⟩
theorem vV.new (w:World) (a m:Int) (t:TypeId):vV (w.alloc (.cells #[.int .i64 a,.int .i64 m] t)) w.heap.size a m:=
 ⟨sI,by rw[aZ _ _ _ _ sI];rfl,by rw[aZ _ _ _ _ sI];rfl,cZ _ _ _ _ sI,cZ _ _ _ _ sI⟩
theorem vV.store {w:World} {b:Nat} {a m:Int} (h:vV w b a m) (a' m':Int):vV ((w.setCell ⟨b,0,none⟩ (.int .i64 a')).setCell ⟨b,1,none⟩ (.int .i64 m')) b a' m':=by
 have e0:=jY (.int .i64 a') h.c0;exact⟨by simpa[World.setCell] using h.lt,(jM (.int .i64 m') om).trans e0,jY _ ((jM _ om).trans h.c1),by rw[jX,jX];exact h.f0,by rw[jX,jX];exact h.f1⟩
theorem Keep.kH {S:List Nat} {w0 w:World} {b:Nat} (h:Keep S w0 w) (hb:b∈S∨w0.heap.size≤b) (u v:Value):Keep S w0 ((w.setCell ⟨b,0,none⟩ u).setCell ⟨b,1,none⟩ v):=(h.setCell (p:=⟨b,0,none⟩) hb u).setCell (p:=⟨b,1,none⟩) hb v
theorem QE {k m:Int} {a:Int} {F:List (Int×Int)} (h:k<m):tH (m-k).toNat a k F=tH (m-1-k).toNat a k (qh (a+sz (m-1)) (m-1) F):=by
 obtain⟨d,hd⟩: ∃d,(m-k).toNat=d+1:=⟨(m-k).toNat-1,om⟩;have e1:(m-1-k).toNat=d:=om;have e2:k+(d:Int)=m-1:=om;rw[hd,e1,tH,e2]
theorem uM.down0 {n:Int} {F T:List (Int×Int)} {a k:Int} (h:uM n F T (a,k)):Qn a k=0↔k≠0:=by
 obtain⟨b0,b1,b2,b3⟩:=h.blk;have bn:=h.t.bound (aG ..);have:=oJ k;have:=h.n2;simp only at b0 b1 b2 b3 bn;have ha:qy a k=0:=Sv b0 om b1 b2 b3;exact⟨fun q=>(Ch q).2,fun q=>downE_mk ha q⟩
theorem take_ok {B:Nat} {ev:Nat→Addr} (pb:Nat) (n:Int) (bf bt:Nat) (F T:List (Int×Int)) (k:Int) (x:Int×Int) (w:World) (hE:yT B ev w) (hBf:B≤bf) (hb:Bud w pb n bf bt F T) (hI:Inv n F T) (k0:0≤k) (k6:k≤6) (h:mq k F=some x):
 Calls Tryz.prog 162 #[.pointer (some ⟨pb,0,none⟩),.int .i64 k] w fun e w'=>e= .returned (.tuple #[.agg #[.int .i64 x.1,.int .i64 k],.nilIface])∧Bud w' pb n bf bt (sJ k x F) (qh x.1 k T)∧Keep [bf,bt] w w':=by
 have hB:=hE.size;have hmf: ∀(fn:Fn) (first cap:Array Value) (w:World),(Instr.makeFunc fn first cap).run Tryz.prog w= .ok (.func fn first cap) w:=fun _ _ _ _=>rfl
 have c1:=hb.c1;have lp:=hb.ltp;have lf:=hb.ltf;have lt:=hb.ltt;have few:=hb.free.few;obtain⟨y,r,hfit,hmin⟩:=Fj h;obtain⟨hxF,hkx⟩:=nu h;have hIH:=hI.hand hxF;have hfin:=hI.take k0 h;have hrx:=hI.rngF hxF;have FIT:=ah hfit;have MIN:=ah hmin;have IH:=ah hIH;have HB:=ah hb;have HI:=ah hI;have FIN:=ah hfin;have XF:=ah hxF;have hfl:(Bv k F).length≤256:=bW (List.length_filter_le _ _) few;rw[hfit] at hfl;clear hb h hfit hmin hIH hfin hI hxF;go_enter Tryz.func162,Tryz.ntmps162;go_wp2_with (go_at_call 160;refine(Dx _ _ ⟨k0,k6⟩).mono ?_;rintro e w' ⟨rfl,rfl⟩);refine(zQ bf F _ (HB.out.free.below (n:=w.heap.size) jK lf)).mono ?_;rintro e w1 ⟨v,rfl,hv⟩;have hb1:=hv.2;have z1:=hb1.size;simp at z1;have kc:w1.cell? ⟨w.heap.size,0,none⟩=some (.int .i64 k):=(hb1.cell (p:=⟨w.heap.size,0,none⟩) (by first|omega|(simp;omega)|(simp;done))).trans (by rw[eD _ _ _ (by first|omega|(simp;omega)|(simp;done)),aZ _ _ _ _ sI];rfl);have r0:w1.cell? ⟨w.heap.size+1,0,none⟩=some (.int .i64 0):=(hb1.cell (p:=⟨w.heap.size+1,0,none⟩) (by first|omega|(simp;omega)|(simp;done))).trans (by rw[aZ _ _ _ _ sI];rfl);have r1:w1.cell? ⟨w.heap.size+1,1,none⟩=some (.int .i64 0):=(hb1.cell (p:=⟨w.heap.size+1,1,none⟩) (by first|omega|(simp;omega)|(simp;done))).trans (by rw[aZ _ _ _ _ sI];rfl);have f0:w1.frozen? ⟨w.heap.size+1,0,none⟩=false:=(hb1.frozen (p:=⟨w.heap.size+1,0,none⟩) sI).trans (cZ _ _ _ _ sI);have f1:w1.frozen? ⟨w.heap.size+1,1,none⟩=false:=(hb1.frozen (p:=⟨w.heap.size+1,1,none⟩) sI).trans (cZ _ _ _ _ sI);have K1:Keep [] w w1:=Keep.of (jK)
 have key: ∃g cap,w.heap.size+2≤g∧Calls Tryz.prog 189 #[v,EZ w.heap.size] w1 fun e w'=>e= .returned (.slice (some ⟨g,0,none⟩) (y::r).length cap)∧zP w' g (y::r)∧Keep [g] w1 w'∧g<w'.heap.size:=by
  rcases hv.mrow with⟨rfl,hnil⟩|⟨g,cap,rfl,hg0,hg,hcap,hc⟩
  ·have:=XF.out
   rw[hnil] at this;cases this
  ·have hg1:w.heap.size+2≤g:=by simpa using hg0
   have hcl:w.heap.size<w1.heap.size:=om;have hcg:w.heap.size≠g:=om;refine⟨g,cap,hg1,(Nu g cap w.heap.size k F w1 hc hg few hcap kc hcl hcg).mono fun e w' ⟨h1,h2,h3⟩=> ?_⟩;rw[FIT.out] at h1 h2;exact⟨h1,h2,h3,by have:=h3.size;omega⟩
 obtain⟨g,cap,hg,key⟩:=key;have KEY:=ah key;clear key hv XF FIT;unfold EZ at KEY;obtain⟨m,hm⟩:=eY ((y::r).length);have hm1:1≤m:=by rw[hm];simp
 rw[←hm] at KEY hfl;have hm0:((m:Int)==0)=false:=beq_eq_false_iff_ne.2 om;have HM:=ah hm;clear hm;go_wp2_with fail;refine KEY.out.mono ?_;rintro e w2 ⟨rfl,row2,hk2,hg2⟩;have z2:=hk2.size;have r0':=(hk2.cell (b:=w.heap.size+1) (o:=0) (by first|omega|(simp;omega)|(simp;done)) (by simp;omega)).trans r0;have r1':=(hk2.cell (b:=w.heap.size+1) (o:=1) (by first|omega|(simp;omega)|(simp;done)) (by simp;omega)).trans r1;have f0':=(hk2.frozen (b:=w.heap.size+1) (o:=0) (by first|omega|(simp;omega)|(simp;done)) (by simp;omega)).trans f0;have f1':=(hk2.frozen (b:=w.heap.size+1) (o:=1) (by first|omega|(simp;omega)|(simp;done)) (by simp;omega)).trans f1;have kc':=(hk2.cell (b:=w.heap.size) (o:=0) (by first|omega|(simp;omega)|(simp;done)) (by simp;omega)).trans kc;have K2:Keep [] w w2:=K1.trans hk2 (fun s hs=>.inr (by rw[bN.1 hs];omega));have MF:=ah (minF_any g cap y r w2 row2 hg2 (by rw[←HM.out];exact hfl));rw[←HM.out,MIN.out] at MF;clear kc r0 r1 f0 f1 hk2 row2;go_wp2_with fail;refine MF.out.mono ?_;rintro e w3 ⟨rfl,hb3⟩;clear MF hm0;have z3:=hb3.size;have K3:Keep [] w w3:=K2.step hb3;have r0:=(hb3.cell (p:=⟨w.heap.size+1,0,none⟩) (by first|omega|(simp;omega)|(simp;done))).trans r0';have r1:=(hb3.cell (p:=⟨w.heap.size+1,1,none⟩) (by first|omega|(simp;omega)|(simp;done))).trans r1';have f0:=(hb3.frozen (p:=⟨w.heap.size+1,0,none⟩) (by first|omega|(simp;omega)|(simp;done))).trans f0';have f1:=(hb3.frozen (p:=⟨w.heap.size+1,1,none⟩) (by first|omega|(simp;omega)|(simp;done))).trans f1';have kc:=(hb3.cell (p:=⟨w.heap.size,0,none⟩) (by first|omega|(simp;omega)|(simp;done))).trans kc'
 clear r0' r1' f0' f1' kc';obtain⟨a,m0⟩:=x;simp only at hrx hkx;have L1:vV w3 (w.heap.size+1) 0 0:=⟨om,r0,r1,f0,f1⟩;have HL1:=ah L1;have lp3:pb<w3.heap.size:=om;have c1':=(K3.cell (o:=1) lp sI).trans c1;have ka:Keep [] w3 ((w3.alloc (.cells #[.int .i64 a,.int .i64 m0] 213)).drew):=((Keep.refl _ _).alloc _).drew;have M3:Bw ((w3.alloc (.cells #[.int .i64 a,.int .i64 m0] 213)).drew) bf F:=(HB.out.free.keep K3 sI).keep ka sI;obtain⟨w4,hrun,hdrop,hturn⟩:=M3.drop (a:=a) (wfInt hrx.1 hrx.2.1) 0;have ne3:bf≠w3.heap.size:=om;have ne1:bf≠w.heap.size:=om;have ne2:bf≠w.heap.size+1:=om;have k34:Keep [bf] w3 w4:=(ka.mono (fun s q=>by cases q)).grown hturn.grown (.inl sI);have kb4:Keep [bf] ((w3.alloc (.cells #[.int .i64 a,.int .i64 m0] 213)).drew) w4:=(Keep.refl _ _).grown hturn.grown (.inl sI);have D:=ah hdrop;have X4:=ah (((vV.new w3 a m0 213).keep (Keep.drew (Keep.refl [] _)) sI).keep kb4 (by simpa using ne3.symm));have R4:=ah (L1.keep k34 (by simpa using ne2.symm));have O4:=ah ((k34.cell (b:=w.heap.size) (o:=0) om (by simpa using ne1.symm)).trans kc);have B4:=ah ((HB.out.keep K3 sI sI sI).turnF hdrop k34);have K4:Keep [bf] w w4:=(K3.mono (fun s q=>by cases q)).then k34;clear hdrop hturn L1 r0 r1 f0 f1 kb4 M3 ka;go_wp2_with fail;refine kX 6 kR kR ?_;simp only[aQ,aW,aP,aU];repeat still_step
 refine wpStill_nil ?_;go_wp2;clear hrun kc c1' c1;have z4:=k34.size;have IH4:=ah (show uM n (rR a F) T (a,m0) from IH.out);have DF4:=ah (show tH (m0-k).toNat a k (rR a F)=sJ k (a,m0) F from rfl);clear IH k34 HL1;go_loopg [10,11,12] 7 (fun gg _ _ _ wr=>∃(q:Int) (F':List (Int×Int)),(q-k).toNat<gg∧k≤q∧q≤6∧Hid (Bud wr pb n bf bt F' T)∧Hid (uM n F' T (a,q))∧Hid (tH (q-k).toNat a k F'=sJ k (a,m0) F)∧Hid (vV wr w3.heap.size a q)∧Hid (vV wr (w.heap.size+1) 0 0)
  ∧Hid (wr.cell? ⟨w.heap.size,0,none⟩=some (.int .i64 k))∧Keep [bf] w wr∧w3.heap.size<wr.heap.size)
 case atStart=>exact⟨m0,rR a F,om,hkx,om,B4,IH4,DF4,X4,R4,O4,K4,X4.out.lt⟩
 case round=>
  obtain⟨q,F',hgg,hkq,hq6,HBr,IHr,DFr,Xr,Rr,Or,Kr,zr⟩:=hrel;clear B4 IH4 DF4 X4 R4 O4 K4;have x0:=Xr.out.c0;have x1:=Xr.out.c1;have o0:=Or.out;by_cases hlt:k<q
  ·have hcut:=uM.cut (n:=n) (F:=F') (T:=T) (a:=a) (k:=q-1) om (by rw[show q-1+1=q by omega];exact IHr.out)
   have hdn:=(uM.down0 IHr.out).2 om;have hEr:yT B ev wr:=hE.below (Kr.below (B:=B) om (fun s hs=>by rw[bN.1 hs];exact hBf));have hrg:=hcut.rng (p:=(a+sz (q-1),q-1)) (ak _ (av _ ((Du IHr.out.fa).2 (.inl rfl))));have hln:=rM hcut.fa (fun p hp=>hcut.rng (ak _ (av _ hp)));have CUT:=ah hcut;have HO:=ah (SG a q wr hEr hdn);clear hcut hdn hEr;go_wp2_with fail;refine HO.out.mono ?_;rintro e w5 ⟨rfl,hb5⟩;clear HO;have z5:=hb5.size;have q1:=(hb5.cell (p:=⟨pb,1,none⟩) (show pb<wr.heap.size by omega)).trans HBr.out.c1;have lp5:pb<w5.heap.size:=om;have ka:Keep [] w5 (((w5.alloc (.cells #[.int .i64 a,.int .i64 (q-1)] 213)).alloc (.cells #[.int .i64 (a+sz (q-1)),.int .i64 (q-1)] 213)).drew):=(((Keep.refl _ _).alloc _).alloc _).drew;have kr5:Keep [] wr w5:=Keep.of hb5;have B5:=HBr.out.keep kr5 sI sI sI;obtain⟨w7,hrun,hput,hgr⟩:=(B5.free.keep ka sI).put hrg hln;have k57:Keep [bf] w5 w7:=(ka.mono (fun s q=>by cases q)).grown hgr (.inl sI);have z7:=k57.size;have kl:Keep [bf] (((w5.alloc (.cells #[.int .i64 a,.int .i64 (q-1)] 213)).alloc (.cells #[.int .i64 (a+sz (q-1)),.int .i64 (q-1)] 213)).drew) w7:=(Keep.refl _ _).grown hgr (.inl sI);have nl:w5.heap.size≠bf:=om;have LO:=((vV.new w5 a (q-1) 213).keep (((Keep.refl [] _).alloc (.cells #[.int .i64 (a+sz (q-1)),.int .i64 (q-1)] 213)).drew) sI).keep kl (by simpa using nl);have l0:=LO.c0;have l1:=LO.c1;have kr7:Keep [bf] wr w7:=(kr5.mono (fun s q=>by cases q)).then k57;have X7:=Xr.out.keep kr7 (by simpa using ne3.symm);have R7:=Rr.out.keep kr7 (by simpa using ne2.symm)
   have x2:=X7.c0;have x3:=X7.c1;have x4:=X7.f0;have x5:=X7.f1;have B7:=B5.turnF hput k57;have O7:=(kr7.cell (b:=w.heap.size) (o:=0) om (by simpa using ne1.symm)).trans o0;have np:pb≠w3.heap.size:=om;have nt':bt≠w3.heap.size:=om;have nw1:w.heap.size≠w3.heap.size:=om;have nw2:w.heap.size+1≠w3.heap.size:=om;have ks:Keep [w3.heap.size] w7 ((w7.setCell ⟨w3.heap.size,0,none⟩ (.int .i64 a)).setCell ⟨w3.heap.size,1,none⟩ (.int .i64 (q-1))):=(Keep.refl _ _).kH (.inl sI) _ _;have B8:=ah (B7.keep ks (by simpa using np) (by simpa using ne3) (by simpa using nt'));have X8:=ah (X7.store a (q-1));have R8:=ah (R7.keep ks (by simpa using nw2));have O8:=ah ((ks.cell (b:=w.heap.size) (o:=0) om (by simpa using nw1)).trans O7);have K8:=ah ((Kr.then kr7).kH (b:=w3.heap.size) (.inr om) (.int .i64 a) (.int .i64 (q-1)));clear hput hgr ka kr5 B5 k57 kl LO kr7 X7 R7 B7 O7 ks o0 x0 x1 hrg hln;go_wp2_with fail;refine kX 8 kR kR ?_;simp only[aQ,aW,aP,aU];repeat still_step
   refine wpStill_nil ?_;go_wp2;go_roundg ((q-1-k).toNat+1)
   case measure=>omega
   case rel=>exact⟨q-1,_,om,om,om,B8,CUT,by rw[←DFr.out,QE hlt];rfl,X8,R8,O8,K8.out,by simp[World.setCell];omega⟩
  ·have eq:q=k:=by omega
   subst eq;have hput:=IHr.out;have e0:(q-q).toNat=0:=om;have hF:F'=sJ q (a,m0) F:=by have:=DFr.out;rwa [e0] at this
   have br:=HBr.out;have c2:=br.c2;have lpr:pb<wr.heap.size:=om;have ka:Keep [] wr wr.drew:=(Keep.refl _ _).drew;have hrg:=hput.rng (p:=(a,q)) (aG ..);have hln:=rM hput.putT.ta (fun p hp=>hput.putT.rngT hp);obtain⟨w7,hrun,hpt,hgr⟩:=(br.taken.keep ka sI).put hrg hln;have k7:Keep [bt] wr w7:=(ka.mono (fun s q=>by cases q)).grown hgr (.inl sI);have nt1:w3.heap.size≠bt:=om;have nt2:w.heap.size+1≠bt:=om;have X7:=Xr.out.keep k7 (by simpa using nt1);have R7:=Rr.out.keep k7 (by simpa using nt2);have x2:=X7.c0;have x3:=X7.c1;have y0:=R7.c0;have y1:=R7.c1;have y2:=R7.f0;have y3:=R7.f1;have B7:=br.turnT hpt k7;have K7:Keep [bf,bt] w w7:=(Kr.mono (fun s hs=>by simp at hs ⊢;exact .inl hs)).then (k7.mono (fun s hs=>by simp at hs ⊢;exact .inr hs));have np:pb≠w.heap.size+1:=om;have nf:bf≠w.heap.size+1:=om;have nt':bt≠w.heap.size+1:=om;have ks:Keep [w.heap.size+1] w7 ((w7.setCell ⟨w.heap.size+1,0,none⟩ (.int .i64 a)).setCell ⟨w.heap.size+1,1,none⟩ (.int .i64 q)):=(Keep.refl _ _).kH (.inl sI) _ _;have B8:=B7.keep ks (by simpa using np) (by simpa using nf) (by simpa using nt');rw[hF] at B8;have HB8:=ah B8;have R8:=R7.store a q;have rc0:=R8.c0;have rc1:=R8.c1;have K8:=ah (K7.kH (b:=w.heap.size+1) (.inr om) (.int .i64 a) (.int .i64 q));have RR:=ah R8;clear hput hF br hrg hln hpt hgr k7 X7 R7 B7 K7 ks B8 ka R8;have hnlt: ¬q<q:=om;go_wp2_with fail;refine kX 8 kR kR ?_;simp only[aQ,aW,aP,aU];repeat still_step
   refine wpStill_nil ?_;go_wp2;have e0:=jY (.int .i64 a) y0;exact bodyPost_ret (v:=.tuple #[.agg #[.int .i64 a,.int .i64 q],.nilIface]) (by simp[e0,rc0,rc1,results,Tryz.results162,go_sem]) rfl ⟨rfl,HB8.out,K8.out⟩
def upP (a k:Int) (F:List (Int×Int)):List (Int×Int):=qh (upF (6-k).toNat a k F).1.1 (upF (6-k).toNat a k F).1.2 (upF (6-k).toNat a k F).2
def TP (n a m b:Int):Int:=if zR n m=0 then zR a b else zR n m
theorem TQ (a b:Int):(zR a b<0↔a<b)∧(zR a b=0↔a=b):=by
 unfold zR;split
 ·omega
 ·split<;>omega
theorem ordP_lt (s:Sl) (j a:Int):decide (TP s.nd s.pg j a<0)=decide (ltP s j a):=by
 obtain⟨p1,p2⟩:=TQ s.nd j;obtain⟨q1,q2⟩:=TQ s.pg a;rw[Bool.eq_iff_iff];simp only[decide_eq_true_eq];unfold TP ltP;split
 ·rename_i h
  rw[p2] at h;rw[q1];constructor
  ·intro q;exact .inr ⟨h,q⟩
  ·rintro(q|⟨_,q⟩)
   ·omega
   ·exact q
 ·rename_i h
  rw[p2] at h;rw[p1];constructor
  ·intro q;exact .inl q
  ·rintro(q|⟨q,_⟩)
   ·exact q
   ·exact absurd q h
theorem or_two (g:Nat) (x y:Int) (w:World) (h0:w.cell? ⟨g,0,none⟩=some (.int .i64 x)) (h1:w.cell? ⟨g,1,none⟩=some (.int .i64 y)) (hl:g<w.heap.size):
 Calls Tryz.prog 166 #[.slice (some ⟨g,0,none⟩) 2 2] w fun e w'=>e= .returned (.int .i64 (if x=0 then y else x))∧w=w':=by
 by_cases hx:x=0
 ·have d0:(x !=0)=false:=by simp[hx]
  rw[if_pos hx];by_cases hy:y=0
  ·have d1:(y !=0)=false:=by simp[hy]
   rw[hy];subst hx hy;go_enter Tryz.func166,Tryz.ntmps166;go_wp2;go_loop [5,8] (fun _ iv=>∃i:Nat,i≤2∧iv= .int .i64 i) (fun _ iv=>2-(intOf iv).toNat)
   case atStart=>exact⟨0,om,by go_num⟩
   case round=>
    obtain⟨i,hi,rfl⟩:=hrel;rcases(show i=0∨i=1∨i=2 by omega) with rfl|rfl|rfl
    ·go_wp2
     go_round
     case rel=>exact⟨1,om,by go_num⟩
     case measure=>simp[intOf]
    ·go_wp2
     go_round
     case rel=>exact⟨2,om,by go_num⟩
     case measure=>simp[intOf]
    ·go_wp2
     go_ret;exact⟨rfl,rfl⟩
  ·have d1:(y !=0)=true:=by simp[hy]
   subst hx;go_enter Tryz.func166,Tryz.ntmps166;go_wp2;go_loop [5,8] (fun _ iv=>∃i:Nat,i≤1∧iv= .int .i64 i) (fun _ iv=>2-(intOf iv).toNat)
   case atStart=>exact⟨0,om,by go_num⟩
   case round=>
    obtain⟨i,hi,rfl⟩:=hrel;rcases(show i=0∨i=1 by omega) with rfl|rfl
    ·go_wp2
     go_round
     case rel=>exact⟨1,om,by go_num⟩
     case measure=>simp[intOf]
    ·go_wp2
     go_ret;exact⟨rfl,rfl⟩
 ·have d0:(x !=0)=true:=by simp[hx]
  rw[if_neg hx];clear hx;go_enter Tryz.func166,Tryz.ntmps166;go_wp2;go_loop [5,8] (fun _ iv=>iv= .int .i64 0) (fun _ _=>0)
  case atStart=>rfl
  case round=>
   subst hrel;go_wp2;go_ret;exact⟨rfl,rfl⟩
theorem Ig (n a k m b l:Int) (w:World):
 Calls Tryz.prog 138 #[.agg #[.int .i64 n,.int .i64 a,.int .i64 k],.agg #[.int .i64 m,.int .i64 b,.int .i64 l]] w fun e w'=>e= .returned (.int .i64 (TP n a m b))∧Below w.heap.size w w':=by
 have CC:Hid (∀(x y:Int) (W:World),Calls Tryz.prog 123 #[.int .i64 x,.int .i64 y] W fun e w'=>e= .returned (.int .i64 (zR x y))∧w'=W):=fun x y W=>(wC x y W).mono fun e w' ⟨h1,h2⟩=>⟨h1,h2.symm⟩
 obtain⟨c1,hc1⟩:=eY (zR n m);obtain⟨c2,hc2⟩:=eY (zR a b);have CA:Hid (∀W,Calls Tryz.prog 123 #[.int .i64 n,.int .i64 m] W fun e w'=>e= .returned (.int .i64 c1)∧w'=W):=fun W=>by rw[hc1];exact CC.out n m W
 have CB:Hid (∀W,Calls Tryz.prog 123 #[.int .i64 a,.int .i64 b] W fun e w'=>e= .returned (.int .i64 c2)∧w'=W):=fun W=>by rw[hc2];exact CC.out a b W
 have hp:TP n a m b=if c1=0 then c2 else c1:=by unfold TP;rw[hc1,hc2]
 rw[hp];clear hc1 hc2 hp CC;go_enter Tryz.func138,Tryz.ntmps138;go_wp2_with fail;refine kX 12 kR kR ?_;simp only[aQ,aW,aP,aU];iterate 4 still_step
 still_call (CA.out _)
 iterate 6 still_step
 still_call (CB.out _)
 refine wpStill_nil ?_;go_wp2_with fail;refine(or_two (w.heap.size+1+1) c1 c2 _ (by rw[fP,aZ _ _ _ _ sI];rfl) (by rw[fP,aZ _ _ _ _ sI];rfl) sI).mono ?_;rintro e w1 ⟨rfl,rfl⟩;go_wp2;all_goals
  go_ret;exact⟨rfl,jK⟩
theorem CQ {X:List Nat} (T:List Bool) (g k:Nat) (w:World) (h:jD w g (bools T)) (hf:kJ T=k) (hm:nN T<T.length) (hl:T.length≤64):
 Calls Tryz.prog 111 #[.slice (some ⟨g,0,none⟩) T.length T.length,.bool false] w fun e w'=>e= .returned (.int .i64 k)∧w=w':=by
 obtain⟨s1,s2,s3⟩:=lV hm;rw[hf] at s1 s2 s3;have ck:=h.c k _ (mY s2);have CB:Hid (∀j,j<k→w.cell? ⟨g,j,none⟩=some (.bool true)):=fun j hj=>h.c j _ (mY (s3 j hj))
 have lt:=h.lt;obtain⟨n,hn⟩:=eY T.length;rw[←hn] at s1 hl ⊢;clear h hf hm s2 s3 hn;go_enter Tryz.func111,Tryz.ntmps111;go_wp2;go_loop [5,8] (fun _ iv=>∃j:Nat,j≤k∧iv= .int .i64 j) (fun _ iv=>n-(intOf iv).toNat)
 case atStart=>exact⟨0,om,by go_num⟩
 case round=>
  obtain⟨j,hj,rfl⟩:=hrel;have j0:(0:Int)≤(j:Int):=om;have j1:(j:Int)<(n:Int):=om;by_cases hjk:j<k
  ·have cj:=CB.out j hjk
   go_wp2;go_round
   case rel=>exact⟨j+1,om,by go_num⟩
   case measure=>simp[intOf];omega
  ·obtain rfl:j=k:=by omega
   go_wp2;go_ret;exact⟨rfl,rfl⟩
theorem tL.cells {w:World} {p:Nat×Nat} {s:Sl} (h:tL w p s):w.cell? ⟨p.1,0,none⟩=some (.int .i64 s.nd)∧w.cell? ⟨p.1,1,none⟩=some (.int .i64 s.pg)∧w.cell? ⟨p.1,2,none⟩=some (.int .i64 0)∧w.cell? ⟨p.1,3,none⟩=some (.slice (some ⟨p.2,0,none⟩) s.T.length s.T.length)∧w.cell? ⟨p.1,4,none⟩=some (.int .i64 (jQ s))∧p.1<w.heap.size∧p.2<w.heap.size:=
 ⟨h.1.gC 0,h.1.gC 1,h.1.gC 2,h.1.gC 3,h.1.gC 4,h.1.lt,h.2.lt⟩
def growF:Value:=.func (.func 137) #[] #[]
theorem Fx (p:Nat×Nat) (s:Sl) (j a:Int) (w:World) (h:tL w p s):
 Calls Tryz.prog 137 #[.pointer (some ⟨p.1,0,none⟩),.agg #[.int .i64 j,.int .i64 a,.int .i64 0]] w fun e w'=>e= .returned (.int .i64 (TP s.nd s.pg j a))∧Below w.heap.size w w':=by
 have b0:Below w.heap.size w (w.alloc (.cells #[.int .i64 j,.int .i64 a,.int .i64 0] 215)):=jK;have HB0:=ah b0;obtain⟨c0,c1,c2,_,_,l1,_⟩:=tL.cells h;have l2:p.1≠w.heap.size:=om;have l3:p.1<w.heap.size+1:=om;have LP:jD (w.alloc (.cells #[.int .i64 j,.int .i64 a,.int .i64 0] 215)) w.heap.size [.int .i64 j,.int .i64 a,.int .i64 0]:=jD.mk_ w [.int .i64 j,.int .i64 a,.int .i64 0] 215 rfl;have p0:=LP.gC 0;have p1:=LP.gC 1;have p2:=LP.gC 2;have pl:=LP.lt;have OR:=ah (fun W=>Ig s.nd s.pg 0 j a 0 W);obtain⟨x,hx⟩:=eY (TP s.nd s.pg j a);rw[←hx] at OR ⊢;clear h b0 LP hx;go_enter Tryz.func137,Tryz.ntmps137;go_wp2_with fail;refine jL kR kR ?_;repeat(go_big_quiet_step (((go_at_call 138;exact Calls.behind (OR.out _)))))
 refine wpQuiet_nil ?_;intro w1 hw';have hb1:=kS hw';clear hw';obtain⟨c1,f1⟩:=xW hb1;have z1:=hb1.size;try simp at z1 c1 f1
 go_wp2;go_ret;exact⟨rfl,HB0.out.trans (hb1.mono sI)⟩
def hitS (j a:Int) (C:List Sl):Bool:=match C[uF j a C]? with
 |some s=>TP s.nd s.pg j a==0
 |none=>false
theorem QH {X:List Nat} {B:Nat} {pc pz e:Nat} {v:Value} {A:SA} {C:List Sl} (j a:Int) (w:World) (h:Ag X B w pc pz e v A C) (hp:C.Pairwise ltS) (hn:C.length≤1024):
 Calls Tryz.prog 136 #[v,.agg #[.int .i64 j,.int .i64 a,.int .i64 0],growF] w fun r w'=>r= .returned (.tuple #[.int .i64 (uF j a C),.bool (hitS j a C)])∧Below w.heap.size w w':=by
 obtain⟨q,k,rfl,hk1,hk2,hrow⟩:=h.form;have HC:=ah h;have Bq:=ah hrow;have hle:=xZ j a C;have PL:Hid (∀(i:Nat) (s:Sl),i<uF j a C→C[i]?=some s→ltP s j a):=fun i s hi hs=>Hy hi hs
 have PG:Hid (∀(i:Nat) (s:Sl),uF j a C≤i→C[i]?=some s→¬ltP s j a):=fun i s hi hs=>Tz hp hi hs
 obtain⟨n,hnn⟩:=eY C.length;have EN:=ah hnn;obtain⟨m,hm⟩:=eY (uF j a C);rw[←hnn] at hn hk1 hle ⊢;have HT1:Hid (∀s,C[uF j a C]?=some s→hitS j a C=(TP s.nd s.pg j a==0)):=fun s hs=>by unfold hitS;rw[hs]
 have HT2:Hid (C.length≤uF j a C→hitS j a C=false):=fun hl=>by unfold hitS;rw[List.getElem?_eq_none hl]
 obtain⟨bb,hbb⟩:=eY (hitS j a C);rw[←hbb] at HT1 HT2 ⊢;rw[←hm] at PL PG HT1 HT2 hle ⊢;clear hbb;have LP:=ah (show jD (w.alloc (.cells #[.int .i64 j,.int .i64 a,.int .i64 0] 215)) w.heap.size [.int .i64 j,.int .i64 a,.int .i64 0] from jD.mk_ w [.int .i64 j,.int .i64 a,.int .i64 0] 215 rfl);have HB0:=ah (show Below w.heap.size w (w.alloc (.cells #[.int .i64 j,.int .i64 a,.int .i64 0] 215)) from jK);unfold maxLen at hk2;unfold growF;clear h hp hrow hnn hm;go_enter Tryz.func136,Tryz.ntmps136;go_wp2_with fail;go_loopw [9,10] (fun iv jv wr=>∃x y:Nat,x≤m∧m≤y∧y≤n∧iv= .int .i64 x∧jv= .int .i64 y∧Hid (jD wr w.heap.size [.int .i64 j,.int .i64 a,.int .i64 0])∧Below w.heap.size w wr) (fun iv jv _=>(intOf jv-intOf iv).toNat);case atStart=>exact⟨0,n,om,hle,aH _,by go_num,rfl,LP,HB0.out⟩
 case round=>
  obtain⟨x,y,hx,hy,hyn,rfl,rfl,HL,hbel⟩:=hrel;have p0:=HL.out.gC 0;have p1:=HL.out.gC 1;have p2:=HL.out.gC 2;have pl:=HL.out.lt;by_cases hxy:x<y
  ·obtain⟨d,hd⟩:=eY ((x+y) / 2)
   have d1:x≤d:=om;have d2:d<y:=om;obtain⟨s,hs⟩: ∃s,C[d]?=some s:=⟨C[d]'(by rw[←EN.out];omega),aA _⟩;obtain⟨p,hp,hsl,_⟩:=(HC.out.below hbel).at hs;obtain⟨g,rfl,hg,hc0⟩:=Bq.out d p hp;have ck:wr.cell? ⟨g,d,none⟩=some (.pointer (some ⟨p.1,0,none⟩)):=(hbel.cell (p:=⟨g,d,none⟩) hg).trans hc0;have gl:g<wr.heap.size:=aC hg hbel.size;have G1:=ah (fun W (b:Below wr.heap.size wr W)=>Fx p s j a W (hsl.keep (Keep.of (S:=[]) b) sI sI));have hdi:((x:Int)+(y:Int)) / 2=(d:Int):=om;have hdk:d<k:=om;have HPL:=ah (PL.out d s);have HPG:=ah (PG.out d s);have HS:=ah hs;have HD:=ah hd;obtain⟨r,hr⟩:=eY (TP s.nd s.pg j a);have HR:=ah (show decide (r<0)=decide (ltP s j a) by rw[hr];exact ordP_lt s j a);rw[←hr] at G1;clear hr hsl hs hd hc0 hp;have LW:Hid (∀W,Below wr.heap.size wr W→jD W w.heap.size [.int .i64 j,.int .i64 a,.int .i64 0]∧Below w.heap.size w W):=fun W b=>⟨HL.out.go b,hbel.trans (b.mono hbel.size)⟩
   cases hlt:decide (r<0) with
   |true=>
    go_wp2_with fail;refine jL kR kR ?_;repeat(go_big_quiet_step (((go_at_call 137;exact Calls.behind (G1.out _ (Behind.h _))))))
    refine wpQuiet_nil ?_;intro w4 hw';have hb4:=kS hw';clear hw';obtain⟨c4,f4⟩:=xW hb4;have z4:=hb4.size;try simp at z4 c4 f4
    go_wp2;go_round
    case rel=>
     have hdm:d<m:=Nat.lt_of_not_le fun q=>HPG.out q HS.out (by have:=HR.out;rw[hlt] at this;exact of_decide_eq_true this.symm)
     exact⟨d+1,y,om,om,hyn,by go_num,rfl,(LW.out _ aM).1,(LW.out _ aM).2⟩
    case measure=>simp[intOf];omega
   |false=>
    go_wp2_with fail;refine jL kR kR ?_;repeat(go_big_quiet_step (((go_at_call 137;exact Calls.behind (G1.out _ (Behind.h _))))))
    refine wpQuiet_nil ?_;intro w5 hw';have hb5:=kS hw';clear hw';obtain⟨c5,f5⟩:=xW hb5;have z5:=hb5.size;try simp at z5 c5 f5
    go_wp2;go_round
    case rel=>
     have hnl: ¬ltP s j a:=by have:=HR.out;rw[hlt] at this;exact of_decide_eq_false this.symm
     have hdm:m≤d:=Nat.le_of_not_lt fun q=>hnl (HPL.out q HS.out)
     exact⟨x,d,hx,hdm,om,rfl,rfl,(LW.out _ aM).1,(LW.out _ aM).2⟩
    case measure=>simp[intOf];omega
  ·obtain rfl:x=m:=by omega
   have BW:Hid (∀W,Below wr.heap.size wr W→Below w.heap.size w W):=fun W b=>hbel.trans (b.mono hbel.size)
   by_cases hxn:x<n
   ·obtain⟨s,hs⟩: ∃s,C[x]?=some s:=⟨C[x]'(by rw[←EN.out];omega),aA _⟩
    obtain⟨p,hp,hsl,_⟩:=(HC.out.below hbel).at hs;obtain⟨g,rfl,hg,hc0⟩:=Bq.out x p hp;have ck:wr.cell? ⟨g,x,none⟩=some (.pointer (some ⟨p.1,0,none⟩)):=(hbel.cell (p:=⟨g,x,none⟩) hg).trans hc0;have gl:g<wr.heap.size:=aC hg hbel.size;have G1:=ah (fun W (b:Below wr.heap.size wr W)=>Fx p s j a W (hsl.keep (Keep.of (S:=[]) b) sI sI));have hdk:x<k:=om;obtain⟨r,hr⟩:=eY (TP s.nd s.pg j a);have HB1:=HT1.out s hs;rw[←hr] at G1 HB1;clear HT1 HT2;subst HB1;clear hr hsl hs hc0 hp;go_wp2_with fail;refine jL kR kR ?_;repeat(go_big_quiet_step (((go_at_call 137;exact Calls.behind (G1.out _ (Behind.h _))))))
    refine wpQuiet_nil ?_;intro w6 hw';have hb6:=kS hw';clear hw';obtain⟨c6,f6⟩:=xW hb6;have z6:=hb6.size;try simp at z6 c6 f6
    go_wp2;go_ret2
    exact⟨rfl,BW.out _ aM⟩
   ·have hb0:=HT2.out (by rw[←EN.out];omega)
    clear HT1 HT2;subst hb0;obtain rfl:x=n:=om;go_wp2_with fail;go_quiet (fail);go_wp2;go_ret2
    exact⟨rfl,BW.out _ jK⟩
end Go.Proofs.YtehhldljdakgeaaGreatDoor
