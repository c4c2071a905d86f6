/- Lemmas and contracts for the claim's last text: StOwn, Shelf, StOne, StShar. -/
import Derived.Test.YtehhldljdakgeaaGreatDoorQa01
import Derived.Test.YtehhldljdakgeaaGreatDoorQa34
import Derived.Test.YtehhldljdakgeaaGreatDoorQa51
set_option linter.unusedSimpArgs false
set_option linter.unusedVariables false
set_option maxHeartbeats 16000000
set_option maxRecDepth 100000
namespace Go.Proofs.YtehhldljdakgeaaGreatDoor
open Go.RowKit Go.Maps
attribute [local go_sem ↓] aJ aK
section
variable {pd pc pz e:Nat} {mn:Int} {O:List (List Int)} {ev:Nat→Addr} {w0:World} {E:tu pd pc pz e mn O ev w0} {X F S:List Nat} {w w':World} {ps pp sz:Nat} {s:St} {id a n:Int} {bl:Nat} {C:BkL} {c:Bk×Nat×Nat} {x y:Bk} {last:Int} {L:List Bk}
theorem sown_any (k v:Int) (hid:kL id) (hsz:1≤sz∧sz≤65536) (hlast:s.p.last<4611686018427387903) (hl2:s.last<4611686018427387903) (h:(xU (jZ E pp) ps pp e sz).S X F s w):
 Calls Tryz.prog 36 #[.pointer (some ⟨ps,0,none⟩),.int .i64 k,.int .i64 v,.int .i64 id] w (EPost (xU (jZ E pp) ps pp e sz).S X F (Sg mn O e sz s k v id).1 w (.tuple #[.int .i64 (Sg mn O e sz s k v id).2.2,jW ev (Sg mn O e sz s k v id).2.1])):=by
 have hE:=xO h;have SAME:=ah (fun r=>Bf (r:=r) h);have hO:=PoX.ord (E:=E) (show PoX E X _ pp s.p w from h.1.choose_spec.s);have HI:=h.2.own (mn:=mn) hO k v id;revert HI;unfold Sg;cases hx:pG s.L id with
 |none=>
  intro _;obtain⟨⟨⟨bl,C⟩,q⟩,hi⟩:=h;have A:=ah (Qh hE q.b hid (Ew q hx));simp only[show jW ev 4= .iface 336 (.pointer (some (ev 4))) from rfl];clear q hi hE hx hO hid hsz hlast hl2;go_enter Tryz.func36,Tryz.ntmps36;go_wp2_with fail;refine A.out.mono ?_;rintro r w1 ⟨rfl,hb1⟩;go_wp2;go_ret2
  exact SAME.out _ _ hb1
 |some x=>
  simp only;by_cases h1:x.h=1
  ·rw[if_pos h1]
   intro _;obtain⟨⟨⟨bl,C⟩,q⟩,hi⟩:=h;obtain⟨c,hc,rfl,hf⟩:=vK q hx;have A:=wT q.b hid hf;obtain⟨b1,b2⟩:=q.b.b c hc;have x3:=b1.gC 3;have xl:=b1.lt;rw[h1] at x3;obtain⟨pb,hpb⟩:=eY c.2.1;rw[←hpb] at x3 xl A;have HA:=ah A;simp only[show jW ev 0= .nilIface from rfl];clear q hi hE hx hc hf b1 b2 hpb A h1 hO hid hsz hlast hl2;go_enter Tryz.func36,Tryz.ntmps36;go_wp2_with fail;refine HA.out.mono ?_;rintro r w1 ⟨rfl,hw1⟩;obtain rfl:=hw1.symm;go_wp2;go_ret2
   exact SAME.out _ _ (aO _ _)
  rw[if_neg h1];by_cases h0:(jO mn O e s.p k v).2.1=0
  ·have e1:=qQ (sz:=sz) h0
   rw[e1];simp only;rw[if_pos trivial];intro HI;obtain⟨⟨⟨bl,C⟩,q⟩,hi⟩:=h;obtain⟨c,hc,rfl,hf⟩:=vK q hx;have hxm:=pR hx;have A:=wT q.b hid hf;have TK:=ah (Dq (mn:=mn) k v hsz.2 hlast hl2 q hi h0);have HT:=(hi.take (mn:=mn) (sz:=sz) hO k v).1;rw[e1] at HT;obtain⟨b1,b2⟩:=q.b.b c hc;have x3:=b1.gC 3;have xl:=b1.lt;obtain⟨hh,hhe⟩:=eY c.1.h;have hge:=(hi.hs c.1 hxm.1);rw[←hhe] at x3 h1 hge;have d1:((hh:Int)==1)=false:=by simp;omega
   obtain⟨H,hH⟩: ∃H:Int,H=(hh:Int)-1:=⟨_,rfl⟩;have wl:IntKind.i64.wrap ((hh:Int)-1)=H:=by rw[hH];exact bB _ om
   have e1H:Hid (((c.1.h-1:Nat):Int)=H):=by show _=_;omega
   have FF:=ah (Ov.Run.start q).ff;obtain⟨nb,hnb⟩:=eY (yG sz s (jO mn O e s.p k v).2.2);have nbid:nb.id=s.last+1:=by rw[hnb];rfl
   have nbo:nb.b.length=sz:=by rw[hnb];simp[yG]
   have hlen:=hi.len c.1 hxm.1;have hne:c.1.id≠nb.id:=by have:=(hi.rng c.1 hxm.1).2;omega
   obtain⟨p',hp'⟩: ∃p',p'=(jO mn O e s.p k v).1:=⟨_,rfl⟩;rw[←hp',←hnb] at HT HI TK;rw[←hp',←hnb];obtain⟨l,hl⟩:=eY (s.last+1);have fl:kL l:=⟨by have:=hi.l0;omega,om⟩;rw[←hl] at HT HI TK nbid ⊢;have HC:=ah hc;have HTT:=ah HT;have HII:=ah HI;have HNI:=ah nbid;have HNO:=ah nbo;have HLE:=ah hlen;have HNE:=ah hne;have HFL:=ah fl;have HSZ:=ah hsz;have HA:=ah A;have HHE:=ah hhe;simp only[show jW ev 0= .nilIface from rfl];clear q hi hE hx hxm hc hf b1 b2 A h1 hO hid hsz hlast hl2 HT HI nbid nbo hlen hne fl hnb hp' hl hhe hH hge e1 h0 SAME;go_enter Tryz.func36,Tryz.ntmps36;go_wp2_with fail;refine HA.out.mono ?_;rintro r w1 ⟨rfl,hw1⟩;obtain rfl:=hw1.symm;go_wp2_with fail;refine TK.out.mono ?_;rintro r w1 ⟨pb,gb,rfl,X1,T1,K1,x1,x2⟩;clear x3 xl;have R1:(zF (jZ E pp) ps pp sz).Run X F w [] X1 (bl,C++[(nb,pb,gb)]) ⟨p',s.L++[nb],l⟩ w1:=⟨⟨⟨_,T1⟩,K1,x1,x2,fun b q=>by cases q⟩,T1,FF.out⟩;have SB1:StB w1 ps pp bl sz (C++[(nb,pb,gb)]) (s.L++[nb]) l:=T1.b;have nd1:((s.L++[nb]).map (·.id)).Nodup:=HTT.out.ndI;have hfn:pG (s.L++[nb]) l=some nb:=by
    have:=zy nd1 (aj _ (bN.2 rfl));rwa [HNI.out] at this
   obtain⟨c',hc',hn',_,hf'⟩:=SB1.has hfn;have hcm:c∈C++[(nb,pb,gb)]:=av _ HC.out;have hne':c'.1.id≠c.1.id:=by rw[hn'];exact HNE.out.symm
   obtain⟨a1,a2,a3,a4⟩:=SB1.apart hc' hcm hne';obtain⟨n1,n2⟩:=SB1.b c' hc';obtain⟨m1,m2⟩:=SB1.b c hcm;have kd:Keep [] w1 w1.drew:=(Keep.refl _ _).drew;have lk:=(SB1.m.keep kd sI).look1 (t:=158) uO iZ (YH w1.drew) (keyOf_int_mk bE (wf64 HFL.out));rw[look_C,hf'] at lk;simp only[jC,gQ] at lk;have lb:(lq c.1.b).length=sz:=by unfold lq;rw[gF];exact HLE.out
   have ln:(lq c'.1.b).length=sz:=by unfold lq;rw[gF,hn'];exact HNO.out
   have CP:=fun ty=>run_copy_cells (P:=Tryz.prog) w1.drew 75 75 ty 5 c'.2.2 0 sz sz ⟨c.2.2,0,none⟩ sz sz (lq c.1.b) kR kR (by rw[lb];simp)
    (fun j u hj=>by rw[addr_add,bH];exact(m2.keep kd sI).c j u hj) (fun j hj=>by rw[bH,(n2.keep kd sI).c j _ (aA om)];rfl)
    (fun j hj=>by rw[bH];exact(n2.keep kd sI).f j om) (fun u hu=>by unfold lq at hu;obtain⟨b,_,rfl⟩:=bJ.1 hu;rfl)
   have k12:Keep [c'.2.2] w1 (w1.drew.setCells c'.2.2 0 (lq c.1.b)):=mZ _ _ ((Keep.refl _ _).drew) (.inl sI);have N2:=(n2.keep kd sI).sets (lq c.1.b) 0 om;rw[show(lq c'.1.b).take 0++lq c.1.b++(lq c'.1.b).drop (0+(lq c.1.b).length)=lq c.1.b from by rw[aW,dz,fQ om,dB]] at N2;obtain⟨w2,hw2⟩:=eX (w1.drew.setCells c'.2.2 0 (lq c.1.b));rw[hw2] at CP k12 N2;have SB2:=StB.put (y:=nb.wr c.1.b) SB1 nd1 hc' (by rw[hn'];rfl) k12 (fun q t=>.inr (by simpa using t)) (by
    have:=n1.keep k12 (by simpa using SB1.two hc');rw[hn'] at this;exact this) N2
   have hc2:c∈Bt (C++[(nb,pb,gb)]) (nb.wr c.1.b):=by
    unfold Bt;exact bJ.2 ⟨c,hcm,if_neg HNE.out⟩
   obtain⟨g1,g2⟩:=SB2.b c hc2;have y3:=g1.gC 3;have yf:=g1.f 3 (by simp[bkC]);have yl:=g1.lt;rw[←HHE.out] at y3;have k23:Keep [c.2.1] w2 (w2.setCell ⟨c.2.1,3,none⟩ (.int .i64 H)):=(Keep.refl _ _).setCell (p:=⟨c.2.1,3,none⟩) (.inl sI) _;have G3:=g1.store 3 (.int .i64 H) (by simp[bkC]);obtain⟨w3,hw3⟩:=eX (w2.setCell ⟨c.2.1,3,none⟩ (.int .i64 H));rw[hw3] at k23 G3;have SB3:=StB.put (y:=c.1.hold (c.1.h-1)) SB2 (by rw[Qf];exact nd1) hc2 rfl k23 (fun q t=>.inl (by simpa using t)) (by
    have:bkC c.2.2 sz (c.1.hold (c.1.h-1))=(bkC c.2.2 sz c.1).set 3 (.int .i64 H):=by
     show[_,_,_,Value.int .i64 ((c.1.h-1:Nat):Int)]=_;rw[e1H.out];rfl
    rw[this];exact G3) (g2.keep k23 (by simpa using(SB2.two hc2).symm))
   have wsm: ∀{y:Nat},y∈sws ps bl (Bt (Bt (C++[(nb,pb,gb)]) (nb.wr c.1.b)) (c.1.hold (c.1.h-1)))→y∈sws ps bl (C++[(nb,pb,gb)]):=fun {y} hy=>by
    unfold sws at hy ⊢;rwa [Ev,Ev] at hy
   have k13:Keep ((zF (jZ E pp) ps pp sz).ws (bl,C++[(nb,pb,gb)])++[]) w1 w3:=by
    rw[dB];exact(k12.mono (fun q t=>by simp at t;subst t;exact oG.2 (.inr (.inr (sZ.2 ⟨c',hc',.inr rfl⟩))))).then (k23.mono (fun q t=>by simp at t;subst t;exact oG.2 (.inr (.inr (sZ.2 ⟨c,hcm,.inl rfl⟩)))))
   have hb':(zF (jZ E pp) ps pp sz).B (bl,Bt (Bt (C++[(nb,pb,gb)]) (nb.wr c.1.b)) (c.1.hold (c.1.h-1))) (((⟨p',s.L++[nb],l⟩:St).put (nb.wr c.1.b)).put (c.1.hold (c.1.h-1))) w3:=SB3;obtain⟨X3,R3⟩:=Ov.Run.put (V:=zF (jZ E pp) ps pp sz) (m:=(bl,C++[(nb,pb,gb)])) (m':=(bl,Bt (Bt (C++[(nb,pb,gb)]) (nb.wr c.1.b)) (c.1.hold (c.1.h-1)))) (t':=((⟨p',s.L++[nb],l⟩:St).put (nb.wr c.1.b)).put (c.1.hold (c.1.h-1))) (L':=[]) R1 k13 (fun q t=>.inl (wsm t)) (fun y t=>aC (T1.lim y (wsm t)).2 k13.size) (fun q t=>by cases t) hb' rfl;have HR3:=ah R3;have z2:=SB1.c.gC 2;have zl:=SB1.c.lt;have u2:=n1.gC 2;have ul:=n1.lt;have v2:=m1.gC 2;have vl:=m1.lt;clear T1 K1 x1 x2 R1 SB1 nd1 hfn hc' hn' hf' hcm hne' a1 a2 a3 a4 n1 n2 m1 m2 kd lb ln k12 N2 hw2 SB2 hc2 g1 g2 k23 G3 SB3 wsm k13 hb' R3;go_wp2_with fail;refine kX 13 kR kR ?_;simp only[aQ,aW,aP,aU];repeat still_step
   refine wpStill_nil ?_;go_wp2;go_ret2
   exact FEnv.Bd HR3.out.fin HII.out
  ·have TN:=ah (Qi (mn:=mn) k v hlast h h0)
   have hcc:(jO mn O e s.p k v).2.1=2∨(jO mn O e s.p k v).2.1=8:=by
    rcases wS (mn:=mn) (k:=k) (v:=v) h.2.p h.2.w h.2.cl h.2.g hO with⟨c0,_⟩|⟨c2,_⟩|⟨c8,_⟩
    ·exact absurd c0 h0
    ·exact .inl c2
    ·exact .inr c8
   rw[sH h0];simp only;rw[if_neg h0];intro _;obtain⟨q,hq⟩: ∃q,jW ev (jO mn O e s.p k v).2.1= .iface 336 (.pointer (some q)):=by rcases hcc with r|r<;>(rw[r];exact⟨_,rfl⟩)
   rw[hq] at TN ⊢;obtain⟨⟨⟨bl,C⟩,t⟩,hi⟩:=h;obtain⟨c,hc,rfl,hf⟩:=vK t hx;have A:=wT t.b hid hf;obtain⟨b1,b2⟩:=t.b.b c hc;have x3:=b1.gC 3;have xl:=b1.lt;have d1:((c.1.h:Int)==1)=false:=by simp;omega
   obtain⟨hh,hhe⟩:=eY c.1.h;obtain⟨pb,hpb⟩:=eY c.2.1;rw[←hhe] at x3 d1;rw[←hpb] at x3 xl A;have HA:=ah A;clear t hi hE hx hc hf b1 b2 hhe hpb A h1 hO hid hsz hlast hl2 h0 hcc hq SAME;go_enter Tryz.func36,Tryz.ntmps36;go_wp2_with fail;refine HA.out.mono ?_;rintro r w1 ⟨rfl,hw1⟩;obtain rfl:=hw1.symm;go_wp2_with fail;refine TN.out.mono ?_;rintro r w1 ⟨rfl,hp2⟩;have HP2:=ah hp2;clear hp2;go_wp2;go_ret2
   exact⟨rfl,HP2.out⟩
end
section
variable {pd pc pz e:Nat} {mn:Int} {O:List (List Int)} {ev:Nat→Addr} {w0:World} {E:tu pd pc pz e mn O ev w0} {X F S:List Nat} {w w':World} {pp sz:Nat} {p:Po}
theorem snew_yes (hsz:1≤sz∧sz≤64) (h:(jZ E pp).S X F p w) (hI:xS e sz ⟨p,[],0⟩):
 Calls Tryz.prog 39 #[.pointer (some ⟨pp,0,none⟩),.int .i64 sz] w fun en w'=>∃ps X',en= .returned (.tuple #[.pointer (some ⟨ps,0,none⟩),.nilIface])∧(xU (jZ E pp) ps pp e sz).S X' F ⟨p,[],0⟩ w'∧Below w.heap.size w w'∧∀x∈X',x∈X∨w.heap.size≤x:=by
 have d1:decide ((sz:Int)<1)=false:=decide_eq_false om;have d2:decide ((64:Int)<(sz:Int))=false:=decide_eq_false om;have hmm:= @run_makeMap Tryz.prog;have M1:=pW.made w Tryz.prog 3;have C2:=jD.new (w.alloc (.map #[] 0)) (storeCells' pp sz w.heap.size 0) 160;rw[show(w.alloc (.map #[] 0)).heap.size=w.heap.size+1 by simp] at C2;have k2:Keep [] w ((w.alloc (.map #[] 0)).alloc (.cells (storeCells' pp sz w.heap.size 0).toArray 160)):=((Keep.refl _ _).alloc _).alloc _;have z2:((w.alloc (.map #[] 0)).alloc (.cells (storeCells' pp sz w.heap.size 0).toArray 160)).heap.size=w.heap.size+2:=sI;have M2:=M1.keep (w':=(w.alloc (.map #[] 0)).alloc (.cells (storeCells' pp sz w.heap.size 0).toArray 160)) ((Keep.refl [] _).alloc _) sI;have b2:Below w.heap.size w ((w.alloc (.map #[] 0)).alloc (.cells (storeCells' pp sz w.heap.size 0).toArray 160)):=k2.qU;obtain⟨w2,hw2⟩:=eX ((w.alloc (.map #[] 0)).alloc (.cells #[.pointer (some ⟨pp,0,none⟩),.int .i64 sz,.map (some w.heap.size),.int .i64 0] 160));have GQ:(w.alloc (.map #[] 0)).alloc (.cells (storeCells' pp sz w.heap.size 0).toArray 160)=w2:=hw2;rw[GQ] at C2 k2 z2 M2 b2;have lim:=(jZ E pp).lim h;have mem:=(jZ E pp).qR h;have T:(zF (jZ E pp) (w.heap.size+1) pp sz).T ([w.heap.size+1,w.heap.size]++X) F (w.heap.size,[]) ⟨p,[],0⟩ w2:=
  ⟨(jZ E pp).tQ (Y:=[w.heap.size+1,w.heap.size]) (G:=[]) h k2 (fun g q=>by cases q) (fun y hy=>by simp at hy;omega),⟨C2,M2,rfl,fun c hc=>(by cases hc),by simp[sws,cws]⟩,fun f hf q=>by
    have:=(lim f (mem f hf)).2;have q':f=w.heap.size+1∨f=w.heap.size∨f∈cws []:=oG.1 q;rcases q' with r|r|r
    ·omega
    ·omega
    ·simp[cws] at r⟩
 have HT:=ah T;have HI:=ah hI;have HB:=ah b2;clear T hI b2 M1 M2 C2 k2 z2 GQ lim mem h hsz;go_enter Tryz.func39,Tryz.ntmps39;go_wp2;go_ret2
 refine⟨_,_,rfl,⟨⟨_,HT.out⟩,HI.out⟩,HB.out,fun x hx=> ?_⟩;rcases aD.1 hx with q|q
 ·simp at q;exact .inr om
 ·exact .inl q
end
def ShelfOk (w:World) (ev:Nat→Addr) (p e:Nat) (en:Ending) (w':World):Prop:=
 ∃(w3:World) (pd pc pz:Nat) (E:tu pd pc pz e 0 [[0]] ev w3) (pp ps pm:Nat) (X F:List Nat) (q:Po),en= .returned (.tuple #[.pointer (some ⟨ps,0,none⟩),.pointer (some ⟨pm,0,none⟩),.bool true])∧
  (xU (jZ E pp) ps pp e e).S X F ⟨q,[],0⟩ w'∧Below w.heap.size w w3∧Below w.heap.size w w'∧StJ e e ⟨q,[],0⟩∧Bg p e 1 2 q.d∧q.R.length=1∧q.T=[]∧q.last=0
theorem GH {B:Nat} {ev:Nat→Addr} (p e:Nat) (w:World) (hE:pY B ev w) (hp:1≤p∧p≤256) (he:1≤e∧e≤64):
 Calls Tryz.prog 29 #[.int .i64 p,.int .i64 e] w (ShelfOk w ev p e):=by
 have hB:=hE.size;have DP:=ah (show Calls Tryz.prog 8 #[.int .i64 p,.int .i64 0,.int .i64 e,.int .i64 2] w _ from Au p 0 e 2 w hE (O9 om om) om he.1 he.2 om om);have HE:=ah hE;have HEE:=ah he;have HPP:=ah hp;clear hE he hp;go_enter Tryz.func29,Tryz.ntmps29;go_wp2_with fail;refine DP.out.mono ?_;rintro r w2 ⟨w3,X,pd,pc,pz,gh,pdm,ghm,pcm,pm,gN,x,rfl,b13,hz,hxn,hxF,hxT,b12⟩;have z3:=b13.size;have e3:pY w3.heap.size ev w3:=(HE.out.go b13).up om (aH _);obtain⟨d0,hd0⟩: ∃d0:De,d0=⟨⟨[x],[]⟩,List.replicate 2 ([],[]),[]⟩:=⟨_,rfl⟩;rw[←hd0] at hz;have hI0:oH e d0:=hz.inv;have DX0:=duo_of e3 b13 hz hI0;have hH0:0<d0.H.length:=by rw[hd0];simp
 have hM0:MoI e [] d0:=by
  rw[hd0];refine⟨eF,fun y hy=>(by cases hy),fun y=> ?_⟩;constructor
  ·intro q;simp[oM] at q
  ·rintro(q|q)
   ·cases q
   ·simp[held,lN] at q
 have hx:Inv x.n x.F x.T:=hI0.c.zi x (by rw[hd0];simp);have hO:qY [[0]] 1:=⟨rfl,fun D hD=>by simp at hD;subst hD;exact⟨rfl,fun x=>by simp;omega⟩⟩;have MD:Bg p e 0 2 d0:=⟨hI0,by rw[hd0];exact pV.start hx HEE.out.1 HEE.out.2 hxF,by rw[hd0],by rw[hd0]⟩;obtain⟨f1,f2,f3⟩:=MD.fill1 hO (by have:=qF HEE.out.1 HEE.out.2;exact Nat.mul_pos (by have:=HPP.out;omega) om) om;have CT1:=ah (yE 1 DX0 om hM0 hH0 f1);have CT2:Hid (∀(pp:Nat) (s:Po) (T:World),lK (jZ (envP (pd:=pd) (pc:=pc) (pz:=pz) (e:=e) (mn:=0) (O:=[[0]]) gh 0 0 e3).dr pp) (envR w3 pdm ghm pcm pm gN e 0 0 0 [[0]]).toFEnv w [] s d0 T→_):=fun pp s T h=>xK 1 h om hM0 hH0 f1
 obtain⟨q0,hq0⟩:=eY (sK (lJ 0 [[0]] e 0 1 d0 []).1 1 (lJ 0 [[0]] e 0 1 d0 []).2.1);have F1:Hid (Bg p e 1 2 q0.d∧q0.R.length=1∧q0.T=[]∧q0.W=[]∧q0.G=[]∧q0.last=0∧q0.cl=false∧q0.most=1):=by
  subst hq0;exact⟨f2,f3,rfl,rfl,rfl,rfl,rfl,rfl⟩
 rw[←hq0] at CT1 CT2;have HB13:=ah b13;generalize envP (pd:=pd) (pc:=pc) (pz:=pz) (e:=e) (mn:=0) (O:=[[0]]) gh 0 0 e3=E0 at CT1 CT2;generalize envR w3 pdm ghm pcm pm gN e 0 0 0 [[0]]=D0 at CT1 CT2;clear DP hz hd0 DX0 e3 hI0 hH0 hM0 hxn hxF hxT b13 b12 z3 hx hO MD f1 f2 f3 hq0;go_wp2_with fail;refine CT1.out.mono ?_;rintro r w4 ⟨pp,rfl,DX4⟩;have CT2':=ah (CT2.out _ _ _ DX4);clear CT1 CT2 DX4;go_wp2_with fail;refine CT2'.out.mono ?_;rintro r w5 ⟨pq,rfl,DX5⟩;obtain⟨X5,F5,Y5,G5,t5⟩:=DX5;obtain⟨m1,m2,m3,m4,m5,m6,m7,m8⟩:=F1.out;have hIS:xS e e ⟨q0,[],0⟩:=⟨(show PoX E0.dr X5 F5 pp q0 w5 from t5.s).2,m4,m5,m7,List.Pairwise.nil,fun x q=>(by cases q),fun x q=>(by cases q),fun x q=>(by cases q),fun x q=>(by cases q),eF,cO _⟩;have SN:=ah (snew_yes (E:=E0.dr) (sz:=e) HEE.out t5.s hIS);have HJ:Hid (StJ e e ⟨q0,[],0⟩):=⟨hIS,by show q0.d.H.length=2;rw[m1.hands];simp,m8,by show 1≤q0.R.length+_;omega,by show q0.T.length=0;rw[m3];rfl⟩;have HB5:=ah t5.bel;clear CT2' t5 m1 m2 m3 m4 m5 m6 m7 m8 hIS;go_wp2_with fail;refine SN.out.mono ?_;rintro r w6 ⟨ps,X6,rfl,hs6,hb6,hn6⟩;have HS6:=ah hs6;have HB6:=ah (HB5.out.trans (hb6.mono HB5.out.size));clear hs6 hb6 hn6 SN;go_wp2;have bz:Below w6.heap.size w6 (w6.alloc (.cells #[.pointer (some ⟨pq,0,none⟩),.int .i64 e,.slice none 0 0,.int .i64 0] 89)):=jK;refine bodyPost_ret (v:=.tuple #[.pointer (some ⟨ps,0,none⟩),.pointer (some ⟨w6.heap.size,0,none⟩),.bool true]) (by simp[results,Tryz.results29,go_sem]) rfl ?_;exact⟨w3,pd,pc,pz,E0.dr,pp,ps,w6.heap.size,X6,F5,q0,rfl,(xU (jZ E0.dr pp) ps pp e e).go HS6.out bz,HB13.out,HB6.out.trans (bz.mono HB6.out.size),HJ.out,F1.out.1,F1.out.2.1,F1.out.2.2.1,F1.out.2.2.2.2.2.1⟩
theorem shelf_no {B:Nat} {ev:Nat→Addr} (p size:Int) (w:World) (hE:pY B ev w) (h:64<size):
 Calls Tryz.prog 29 #[.int .i64 p,.int .i64 size] w fun r w'=>r= .returned (.tuple #[.pointer none,.pointer none,.bool false])∧Below w.heap.size w w':=by
 have DN:=ah (show Calls Tryz.prog 8 #[.int .i64 p,.int .i64 0,.int .i64 size,.int .i64 2] w _ from OH p 0 size 2 w hE (.inr (.inr h)) om om);clear hE h;go_enter Tryz.func29,Tryz.ntmps29;go_wp2_with fail;refine DN.out.mono ?_;rintro r w2 ⟨rfl,hb2⟩;go_wp2;exact bodyPost_ret (v:=.tuple #[.pointer none,.pointer none,.bool false]) (by simp[results,Tryz.results29,go_sem]) rfl ⟨rfl,hb2⟩
def wU (p:Po) (o:Ob) (b:List UInt8) (h:Nat):St:=⟨p,[⟨1,o,b,h⟩],1⟩
def GI (p:Po) (o:Ob) (b:List UInt8) (h:Nat) (o':Ob) (b':List UInt8):St:=⟨p,[⟨1,o,b,h⟩,⟨2,o',b',1⟩],2⟩
section
variable {mn:Int} {O:List (List Int)} {e sz:Nat} {q p:Po} {o o':Ob} {b b' t:List UInt8} {h:Nat} {a k v:Int}
theorem uw:pG (wU p o b h).L 1=some ⟨1,o,b,h⟩:=by simp[pG,wU]
theorem Bh:pG (GI p o b h o' b').L 1=some ⟨1,o,b,h⟩:=by simp[pG,GI]
theorem Bj:pG (GI p o b h o' b').L 2=some ⟨2,o',b',1⟩:=by simp[pG,GI]
theorem Qj (h0:(jO mn O e q k v).2.1=0):uq mn O e sz ⟨q,[],0⟩ k v=(wU (jO mn O e q k v).1 (jO mn O e q k v).2.2 (List.replicate sz 0) 1,0,1):=by
 rw[qQ h0];rfl
theorem YL {y:Bk} (hy:y.id=1):(wU p o b h).put y=⟨p,[y],1⟩:=by simp[St.put,wU,EG,hy]
theorem Bl (h1:h=1) (ha:0≤a) (hl:a+t.length≤sz):sG sz (wU p o b h) 1 a t=(wU p o (q9 b t a.toNat) h,0):=by
 unfold sG;rw[uw];simp only;rw[if_neg om,if_neg om,YL rfl];rfl
theorem one_held (h1:1<h) (ha:0≤a) (hl:a+t.length≤sz):sG sz (wU p o b h) 1 a t=(wU p o b h,6):=by
 unfold sG;rw[uw];simp only;rw[if_neg om,if_pos h1]
theorem one_hold (h1:h<16):Et (wU p o b h) 1=(wU p o b (h+1),0):=by
 unfold Et;rw[uw];simp only;rw[if_neg om,YL rfl];rfl
theorem xP {n:Int} (ha:0≤a) (hn:0≤n) (hl:a+n≤sz):mQ sz (wU p o b h) 1 a n=0:=by
 unfold mQ;rw[uw];simp only;rw[if_neg om]
theorem Ez {n:Int} (ha:0≤a) (hn:0≤n) (hl:a+n≤sz):yP sz (wU p o b h) 1 a n=(b.drop a.toNat).take n.toNat:=by
 unfold yP;rw[uw];simp only;rw[if_pos (xP ha hn hl)]
theorem two_bytes {n id:Int} (hi:id=1∨id=2) (ha:0≤a) (hn:0≤n) (hl:a+n≤sz):mQ sz (GI p o b h o' b') id a n=0:=by
 unfold mQ;rcases hi with rfl|rfl
 ·rw[Bh];simp only;rw[if_neg om]
 ·rw[Bj];simp only;rw[if_neg om]
theorem YM {n:Int} (ha:0≤a) (hn:0≤n) (hl:a+n≤sz):yP sz (GI p o b h o' b') 1 a n=(b.drop a.toNat).take n.toNat:=by
 unfold yP;rw[Bh];simp only;rw[if_pos (two_bytes (.inl rfl) ha hn hl)]
theorem YN {n:Int} (ha:0≤a) (hn:0≤n) (hl:a+n≤sz):yP sz (GI p o b h o' b') 2 a n=(b'.drop a.toNat).take n.toNat:=by
 unfold yP;rw[Bj];simp only;rw[if_pos (two_bytes (.inr rfl) ha hn hl)]
theorem YO (ha:0≤a) (hl:a+t.length≤sz):sG sz (GI p o b h o' b') 2 a t=(GI p o b h o' (q9 b' t a.toNat),0):=by
 unfold sG;rw[Bj];simp only;rw[if_neg om,if_neg om];simp[St.put,GI,EG,Bk.wr]
theorem one_own1 (h1:h=1):Sg mn O e sz (wU p o b h) k v 1=(wU p o b h,0,1):=by
 unfold Sg;rw[uw];simp only;rw[if_pos h1]
theorem one_own (h1:1<h) (h0:(jO mn O e p k v).2.1=0):Sg mn O e sz (wU p o b h) k v 1=(GI (jO mn O e p k v).1 o b (h-1) (jO mn O e p k v).2.2 b,0,2):=by
 unfold Sg;rw[uw];simp only;rw[if_neg om,qQ (s:=wU p o b h) h0];simp only;rw[if_pos trivial];simp[St.put,wU,GI,EG,Bk.wr,Bk.hold,yG]
end
section
variable {pd pc pz e:Nat} {ev:Nat→Addr} {w0:World} {E:tu pd pc pz e 0 [[0]] ev w0} {w w' W:World} {ps pp:Nat} {s:St} {id a n:Int}
def SX (E:tu pd pc pz e 0 [[0]] ev w0) (pp ps:Nat) (s:St) (W:World):Prop:=∃X F,(xU (jZ E pp) ps pp e e).S X F s W
theorem SX.bel (h:SX E pp ps s W):Below w0.heap.size w0 W:=by obtain⟨X,F,q⟩:=h;exact(xU (jZ E pp) ps pp e e).bel q
theorem SX.go (h:SX E pp ps s W) (k:Below W.heap.size W w'):SX E pp ps s w':=by obtain⟨X,F,q⟩:=h;exact⟨X,F,(xU (jZ E pp) ps pp e e).go q k⟩
theorem SX.inv (h:SX E pp ps s W):xS e e s:=by obtain⟨X,F,q⟩:=h;exact q.2
theorem SX.ord (h:SX E pp ps s W):qY [[0]] s.p.d.c.L.length:=by
 obtain⟨X,F,q⟩:=h;exact PoX.ord (E:=E) (show PoX E X _ pp s.p W from q.1.choose_spec.s)
theorem SX.e64 (h:SX E pp ps s W):1≤e∧e≤64:=⟨h.inv.p.inv.c.e1,h.inv.p.inv.c.e2⟩
theorem YP (h:SX E pp ps s W) (k v:Int) (hl:s.p.last<4611686018427387903) (hl2:s.last<4611686018427387903):
 Calls Tryz.prog 32 #[.pointer (some ⟨ps,0,none⟩),.int .i64 k,.int .i64 v] W fun r w'=>r= .returned (.tuple #[.int .i64 (uq 0 [[0]] e e s k v).2.2,jW ev (uq 0 [[0]] e e s k v).2.1])∧SX E pp ps (uq 0 [[0]] e e s k v).1 w':=by
 have h64:=h.e64;obtain⟨X,F,q⟩:=h;exact(Nb k v om hl hl2 q).mono fun r w' ⟨h1,X',h2,_⟩=>⟨h1,X',F,h2⟩
theorem xQ (h:SX E pp ps s W) (hid:kL id) (ha:kL a) {t:ByteArray} (ht:t.size≤65536):
 Calls Tryz.prog 34 #[.pointer (some ⟨ps,0,none⟩),.int .i64 id,.int .i64 a,.string t] W fun r w'=>r= .returned (jW ev (sG e s id a t.data.toList).2)∧SX E pp ps (sG e s id a t.data.toList).1 w':=by
 have h64:=h.e64;obtain⟨X,F,q⟩:=h;exact(Si om hid ha ht q).mono fun r w' ⟨h1,X',h2,_⟩=>⟨h1,X',F,h2⟩
theorem sx_hold (h:SX E pp ps s W) (hid:kL id):
 Calls Tryz.prog 31 #[.pointer (some ⟨ps,0,none⟩),.int .i64 id] W fun r w'=>r= .returned (jW ev (Et s id).2)∧SX E pp ps (Et s id).1 w':=by
 obtain⟨X,F,q⟩:=h;exact(YJ hid q).mono fun r w' ⟨h1,X',h2,_⟩=>⟨h1,X',F,h2⟩
theorem sx_own (h:SX E pp ps s W) (k v:Int) (hid:kL id) (hl:s.p.last<4611686018427387903) (hl2:s.last<4611686018427387903):
 Calls Tryz.prog 36 #[.pointer (some ⟨ps,0,none⟩),.int .i64 k,.int .i64 v,.int .i64 id] W fun r w'=>r= .returned (.tuple #[.int .i64 (Sg 0 [[0]] e e s k v id).2.2,jW ev (Sg 0 [[0]] e e s k v id).2.1])∧SX E pp ps (Sg 0 [[0]] e e s k v id).1 w':=by
 have h64:=h.e64;obtain⟨X,F,q⟩:=h;exact(sown_any k v hid ⟨h64.1,om⟩ hl hl2 q).mono fun r w' ⟨h1,X',h2,_⟩=>⟨h1,X',F,h2⟩
theorem Bn (h:SX E pp ps s W) (hid:kL id) (ha:kL a) (hn:kL n):
 Calls Tryz.prog 33 #[.pointer (some ⟨ps,0,none⟩),.int .i64 id,.int .i64 a,.int .i64 n] W fun r w'=>r= .returned (.tuple #[.string ⟨(yP e s id a n).toArray⟩,jW ev (mQ e s id a n)])∧SX E pp ps s w':=by
 have h64:=h.e64;have g:=fun w' k=>h.go (w':=w') k
 obtain⟨X,F,q⟩:=h;exact(YK om hid ha hn q).mono fun r w' ⟨h1,h2⟩=>⟨h1,g w' h2⟩
theorem Sk (h:SX E pp ps s W) (hid:kL id):
 Calls Tryz.prog 38 #[.pointer (some ⟨ps,0,none⟩),.int .i64 id] W fun r w'=>r= .returned (match pG s.L id with|some x=>.tuple #[.int .i64 x.h,.nilIface]|none=>.tuple #[.int .i64 0,jW ev 4])∧SX E pp ps s w':=by
 have g:=fun w' k=>h.go (w':=w') k
 obtain⟨X,F,q⟩:=h;exact(Gx hid q).mono fun r w' ⟨h1,h2⟩=>⟨h1,g w' h2⟩
theorem Qk (h:SX E pp ps s W):
 Calls Tryz.prog 37 #[.pointer (some ⟨ps,0,none⟩)] W fun r w'=>r= .returned (.int .i64 s.L.length)∧SX E pp ps s w':=by
 have g:=h;obtain⟨X,F,q⟩:=h;exact(YI q).mono fun r w' ⟨h1,h2⟩=>⟨h1,by rw[h2];exact g⟩
end
theorem Nc {B:Nat} {ev:Nat→Addr} (w:World) (hE:pY B ev w):
 Calls Tryz.prog 28 #[] w fun r w'=>r= .returned (.bool true)∧Below w.heap.size w w':=by
 have SH:=ah (show Calls Tryz.prog 29 #[.int .i64 1,.int .i64 16] w _ from GH 1 16 w hE om om);clear hE;go_enter Tryz.func28,Tryz.ntmps28;go_wp2_with fail;refine SH.out.mono ?_;rintro r w1 ⟨w3,pd,pc,pz,E,pp,ps,pm,X,F,q,rfl,hS,hb3,hb1,hJ,hM,hR,hT,hl⟩;have S1:SX E pp ps ⟨q,[],0⟩ w1:=⟨X,F,hS⟩;have h0:=hJ.Ey (k:=0) S1.ord om (fun r=>by simp only at r;rw[r] at hR;simp at hR);have TK0:=YP S1 0 0 (by simp only;omega) (by simp only;omega);rw[Qj h0] at TK0;obtain⟨p1,hp1⟩:=eY ((jO 0 [[0]] 16 q 0 0).1);obtain⟨o1,ho1⟩:=eY ((jO 0 [[0]] 16 q 0 0).2.2);rw[←hp1,←ho1] at TK0;have TK:=ah (show Calls Tryz.prog 32 #[.pointer (some ⟨ps,0,none⟩),.int .i64 0,.int .i64 0] w1 fun r w'=>r= .returned (.tuple #[.int .i64 1,.nilIface])∧SX E pp ps (wU p1 o1 (List.replicate 16 0) 1) w' from TK0);have HB3:=ah hb3;clear S1 hS h0 TK0 hJ hM hR hT hl hp1 ho1 hb1 SH hb3;go_wp2_with fail;refine TK.out.mono ?_;rintro r w2 ⟨rfl,S2⟩;have WR0:=xQ (id:=1) (a:=1) (t:=⟨#[97,98]⟩) S2 ⟨om,om⟩ ⟨om,om⟩ (by decide);rw[Bl rfl om (by decide)] at WR0;have WR:=ah (show Calls Tryz.prog 34 #[.pointer (some ⟨ps,0,none⟩),.int .i64 1,.int .i64 1,.string ⟨#[97,98]⟩] w2 fun r w'=>r= .returned .nilIface∧SX E pp ps (wU p1 o1 (q9 (List.replicate 16 0) [97,98] 1) 1) w' from WR0);clear S2 WR0 TK;go_wp2_with fail;refine WR.out.mono ?_;rintro r w4 ⟨rfl,S4⟩;have RD0:=Bn (id:=1) (a:=0) (n:=4) S4 ⟨om,om⟩ ⟨om,om⟩ ⟨om,om⟩;rw[xP om om (by decide),Ez om om (by decide)] at RD0;have RD:=ah (show Calls Tryz.prog 33 #[.pointer (some ⟨ps,0,none⟩),.int .i64 1,.int .i64 0,.int .i64 4] w4 fun r w'=>r= .returned (.tuple #[.string ⟨#[0,97,98,0]⟩,.nilIface])∧SX E pp ps (wU p1 o1 (q9 (List.replicate 16 0) [97,98] 1) 1) w' from RD0)
 clear S4 RD0 WR;go_wp2_with fail;refine RD.out.mono ?_;rintro r w5 ⟨rfl,S5⟩;have HB5:=ah (HB3.out.trans (S5.bel.mono HB3.out.size));clear S5 RD;go_wp2;go_ret;exact⟨rfl,HB5.out⟩
theorem StJ.keepR {e sz:Nat} {s:St} {k:Int} (hO:qY [[0]] s.p.d.c.L.length) (h:StJ e sz s) (hk:0≤k∧k<2) (h0:(takeD 0 [[0]] e s.p.d k 0 false).2.1=0):
 (jO 0 [[0]] e s.p k 0).1.R=s.p.R∧(jO 0 [[0]] e s.p k 0).1.last=s.p.last:=by
 obtain⟨r1,r2⟩:=h.right hO hk;unfold jO;rw[if_neg (by rw[h.inv.cl];simp),if_neg (by rw[r1,r2];simp),if_neg (by rw[h.inv.w];simp),if_pos h0];exact⟨rfl,rfl⟩
theorem zG {b:List UInt8} {e:Nat} (h:b.length=e):((b.drop (0:Int).toNat).take (e:Int).toNat)=b:=by
 simp only[Int.toNat_zero,aU,bQ];rw[dP om]
theorem yQ {B:Nat} {ev:Nat→Addr} (size lY at_:Int) (text:ByteArray) (w:World) (hE:pY B ev w) (f1:kL size) (f2:kL lY) (f3:kL at_):
 Calls Tryz.prog 5 #[.int .i64 size,.int .i64 lY,.string text,.int .i64 at_] w fun e w'=>e= .returned (.bool true)∧Below w.heap.size w w':=by
 have SV:=ah (Nc w hE);have EE:Hid (∀W,Below w.heap.size w W→pY B ev W):=fun W hW=>hE.go hW
 obtain⟨n,hn⟩:=eY text.size;have hlen:=fun ty=>show(Builtin.len_ #[9] ty #[.string text]).run Tryz.prog=(Builtin.len_ #[9] ty #[.string text]).run Tryz.prog from rfl
 clear hlen hE;go_enter Tryz.func5,Tryz.ntmps5;go_wp2_with fail;refine SV.out.mono ?_;rintro r w1 ⟨rfl,hb1⟩;clear SV;by_cases hbad:lY<1∨16<lY∨(n:Int)<1∨size<n∨at_<0∨size-n<at_
 ·rw[hn] at hbad
  have D:decide (lY<1)=true∨(decide (lY<1)=false∧decide (16<lY)=true)∨(decide (lY<1)=false∧decide (16<lY)=false∧decide ((text.size:Int)<1)=true)∨
   (decide (lY<1)=false∧decide (16<lY)=false∧decide ((text.size:Int)<1)=false∧decide (size<(text.size:Int))=true)∨
   (decide (lY<1)=false∧decide (16<lY)=false∧decide ((text.size:Int)<1)=false∧decide (size<(text.size:Int))=false∧decide (at_<0)=true)∨
   (decide (lY<1)=false∧decide (16<lY)=false∧decide ((text.size:Int)<1)=false∧decide (size<(text.size:Int))=false∧decide (at_<0)=false∧IntKind.i64.wrap (size-(text.size:Int))=size-(text.size:Int)∧decide (size-(text.size:Int)<at_)=true):=by
   unfold kL at f1;by_cases p1:lY<1
   ·exact .inl (decide_eq_true p1)
   by_cases p2:16<lY
   ·exact .inr (.inl ⟨decide_eq_false p1,decide_eq_true p2⟩)
   by_cases p3:(text.size:Int)<1
   ·exact .inr (.inr (.inl ⟨decide_eq_false p1,decide_eq_false p2,decide_eq_true p3⟩))
   by_cases p4:size<(text.size:Int)
   ·exact .inr (.inr (.inr (.inl ⟨decide_eq_false p1,decide_eq_false p2,decide_eq_false p3,decide_eq_true p4⟩)))
   by_cases p5:at_<0
   ·exact .inr (.inr (.inr (.inr (.inl ⟨decide_eq_false p1,decide_eq_false p2,decide_eq_false p3,decide_eq_false p4,decide_eq_true p5⟩))))
   ·exact .inr (.inr (.inr (.inr (.inr ⟨decide_eq_false p1,decide_eq_false p2,decide_eq_false p3,decide_eq_false p4,decide_eq_false p5,bB _ om,decide_eq_true om⟩))))
  clear hbad hn f1 f2 f3;rcases D with d1|⟨d1,d2⟩|⟨d1,d2,d3⟩|⟨d1,d2,d3,d4⟩|⟨d1,d2,d3,d4,d5⟩|⟨d1,d2,d3,d4,d5,wl,d6⟩;all_goals
   go_wp2;go_ret;exact⟨rfl,hb1⟩
 have d1:decide (lY<1)=false:=decide_eq_false om;have d2:decide (16<lY)=false:=decide_eq_false om;have d3:decide ((text.size:Int)<1)=false:=decide_eq_false om;have d4:decide (size<(text.size:Int))=false:=decide_eq_false om;have d5:decide (at_<0)=false:=decide_eq_false om;have wl:IntKind.i64.wrap (size-(text.size:Int))=size-(text.size:Int):=by unfold kL at f1;exact bB _ om
 have d6:decide (size-(text.size:Int)<at_)=false:=decide_eq_false om;by_cases h64:64<size
 ·have SN:=ah (shelf_no 8 size w1 (EE.out _ hb1) h64)
  clear hbad hn f1 f2 f3 h64;go_wp2_with fail;refine SN.out.mono ?_;rintro r w2 ⟨rfl,hb2⟩;go_wp2;go_ret;exact⟨rfl,hb1.trans (hb2.mono hb1.size)⟩
 obtain⟨e,he⟩: ∃e:Nat,size=e:=⟨size.toNat,om⟩;obtain⟨h,hh⟩: ∃h:Nat,lY=h:=⟨lY.toNat,om⟩;obtain⟨a,ha⟩: ∃a:Nat,at_=a:=⟨at_.toNat,om⟩;subst he hh ha;have q1:1≤e∧e≤64:=om;have q2:1≤h∧h≤16:=om;have q3:(a:Int)+text.size≤e:=om;have SH:=ah (show Calls Tryz.prog 29 #[.int .i64 8,.int .i64 e] w1 _ from GH 8 e w1 (EE.out _ hb1) om q1);clear hbad hn f1 f2 f3 h64;have HB1:=ah hb1;go_wp2_with fail;clear d1 d2 d3 d4 d5 wl d6;refine SH.out.mono ?_;rintro r w2 ⟨w3,pd,pc,pz,E,pp,ps,pm,X,F,q,rfl,hS,hb3,hb2,hJ,hM,hR,hT,hl⟩;have HB3:Hid (Below w.heap.size w w3):=hb1.trans (hb3.mono hb1.size);have S1:SX E pp ps ⟨q,[],0⟩ w2:=⟨X,F,hS⟩;have t0:=(hM.take (k:=0) ⟨rfl,fun D hD=>by simp at hD;subst hD;exact⟨rfl,fun x=>by simp;omega⟩⟩ (by have:=qF q1.1 q1.2;omega) om false).1;obtain⟨r1,r2⟩:=hJ.keepR (k:=0) S1.ord om t0;have h0:=hJ.Ey (k:=0) S1.ord om (fun r=>by simp only at r;rw[r] at hR;simp at hR);have J1:=(hJ.take (k:=0) S1.ord om).1;have TK0:=YP S1 0 0 (by simp only;omega) (by simp only;omega);rw[Qj h0] at TK0 J1;obtain⟨p1,hp1⟩:=eY ((jO 0 [[0]] e q 0 0).1);obtain⟨o1,ho1⟩:=eY ((jO 0 [[0]] e q 0 0).2.2);simp only at r1 r2;rw[←hp1] at r1 r2;rw[←hp1,←ho1] at TK0 J1;have TK:=ah (show Calls Tryz.prog 32 #[.pointer (some ⟨ps,0,none⟩),.int .i64 0,.int .i64 0] w2 fun r w'=>r= .returned (.tuple #[.int .i64 1,.nilIface])∧SX E pp ps (wU p1 o1 (List.replicate e 0) 1) w' from TK0);have PL:Hid (p1.last=0):=r2.trans hl;have PR:Hid (p1.R≠[]):=fun z=>by rw[z] at r1;rw[←r1] at hR;simp at hR
 have HJ1:=ah J1;clear S1 hS h0 TK0 hJ hM hR hT hl hp1 ho1 hb2 SH hb3 t0 r1 r2 J1 hb1;go_wp2_with fail;refine TK.out.mono ?_;rintro r w4 ⟨rfl,S2⟩;obtain⟨T,hT⟩:=eY text.data.toList;have hTl:T.length=text.size:=by rw[hT,Lib.size_eq]
 have WR0:=xQ (id:=1) (a:=(a:Int)) (t:=text) S2 ⟨om,om⟩ ⟨om,om⟩ om;rw[←hT,Bl rfl om om] at WR0;obtain⟨b,hb⟩:=eY (q9 (List.replicate e 0) T (a:Int).toNat);have hbl:Hid (b.length=e):=by show b.length=e;rw[hb,Dn (by simp;omega)];simp
 rw[←hb] at WR0;have WR:=ah (show Calls Tryz.prog 34 #[.pointer (some ⟨ps,0,none⟩),.int .i64 1,.int .i64 a,.string text] w4 fun r w'=>r= .returned .nilIface∧SX E pp ps (wU p1 o1 b 1) w' from WR0);have Q1:=ah q1;have Q2:=ah q2;clear S2 WR0 TK hT hTl hb q3 q1 q2;go_wp2_with fail;refine WR.out.mono ?_;rintro r w5 ⟨rfl,S5⟩;have HS5:=ah S5;clear S5 WR;go_wp2_with fail;go_loopw [15] (fun kv wr=>∃i:Nat,1≤i∧i≤h∧kv= .int .i64 i∧Hid (SX E pp ps (wU p1 o1 b i) wr)) (fun kv _=>h-(intOf kv).toNat);case atStart=>exact⟨1,om,Q2.out.1,by go_num,HS5⟩
 case round=>
  obtain⟨i,hi1,hih,rfl,HS⟩:=hrel;clear HS5;by_cases hlt:i<h
  ·have hli:(i:Int)<(h:Int):=by omega
   have dl:decide ((i:Int)<(h:Int))=true:=decide_eq_true hli;have HD0:=sx_hold (id:=1) HS.out ⟨om,om⟩;rw[one_hold (by have:=Q2.out;omega)] at HD0;have HD:=ah (show Calls Tryz.prog 31 #[.pointer (some ⟨ps,0,none⟩),.int .i64 1] wr fun r w'=>r= .returned .nilIface∧SX E pp ps (wU p1 o1 b (i+1)) w' from HD0);have wi:IntKind.i64.wrap ((i:Int)+1)=(i:Int)+1:=bB _ (by have:=Q2.out;omega);clear HD0;go_wp2_with fail;refine HD.out.mono ?_;rintro r w6 ⟨rfl,S6⟩;have HS6:=ah S6;clear S6;go_wp2;go_roundw;case rel=>exact⟨i+1,om,om,by go_num,HS6⟩
   case measure=>simp[intOf];omega
  ·obtain rfl:i=h:=by omega
   have dl:decide ((i:Int)<(i:Int))=false:=decide_eq_false om;have RD0:=Bn (id:=1) (a:=0) (n:=(e:Int)) HS.out ⟨om,om⟩ ⟨om,om⟩ ⟨om,by have:=Q1.out;omega⟩;rw[xP om om om,Ez om om om,zG hbl.out] at RD0;obtain⟨bs,hbs⟩: ∃bs:ByteArray,bs=⟨b.toArray⟩:=⟨_,rfl⟩;rw[←hbs] at RD0;have RD:=ah (show Calls Tryz.prog 33 #[.pointer (some ⟨ps,0,none⟩),.int .i64 1,.int .i64 0,.int .i64 e] wr fun r w'=>r= .returned (.tuple #[.string bs,.nilIface])∧SX E pp ps (wU p1 o1 b i) w' from RD0);have HBS:=ah hbs;clear RD0 HS hlt hih hbs;go_wp2_with fail;refine RD.out.mono ?_;rintro r w6 ⟨rfl,S6⟩;clear RD dl;by_cases h1:i=1
   ·subst h1
    have OW0:=sx_own (id:=1) S6 1 0 ⟨om,om⟩ (by show p1.last<_;have:=PL.out;omega) (by show(1:Int)<_;omega);rw[one_own1 rfl] at OW0;have OW:=ah (show Calls Tryz.prog 36 #[.pointer (some ⟨ps,0,none⟩),.int .i64 1,.int .i64 0,.int .i64 1] w6 fun r w'=>r= .returned (.tuple #[.int .i64 1,.nilIface])∧SX E pp ps (wU p1 o1 b 1) w' from OW0);clear OW0 S6;go_wp2_with fail;refine OW.out.mono ?_;rintro r w7 ⟨rfl,S7⟩;have RD0:=Bn (id:=1) (a:=0) (n:=(e:Int)) S7 ⟨om,om⟩ ⟨om,om⟩ ⟨om,by have:=Q1.out;omega⟩;rw[xP om om om,Ez om om om,zG hbl.out,←HBS.out] at RD0;have RD:=ah (show Calls Tryz.prog 33 #[.pointer (some ⟨ps,0,none⟩),.int .i64 1,.int .i64 0,.int .i64 e] w7 fun r w'=>r= .returned (.tuple #[.string bs,.nilIface])∧SX E pp ps (wU p1 o1 b 1) w' from RD0);clear RD0 S7 OW;go_wp2_with fail;refine RD.out.mono ?_;rintro r w8 ⟨rfl,S8⟩;have WR0:=xQ (id:=1) (a:=0) (t:=⟨#[121]⟩) S8 ⟨om,om⟩ ⟨om,om⟩ (by decide);rw[Bl rfl om (by have:=Q1.out;show 0+((1:Nat):Int)≤_;omega)] at WR0;have WR:=ah (show Calls Tryz.prog 34 #[.pointer (some ⟨ps,0,none⟩),.int .i64 1,.int .i64 0,.string ⟨#[121]⟩] w8 fun r w'=>r= .returned .nilIface∧SX E pp ps (wU p1 o1 (q9 b [121] (0:Int).toNat) 1) w' from WR0);clear WR0 S8 RD;go_wp2_with fail;refine WR.out.mono ?_;rintro r w9 ⟨rfl,S9⟩;have CT:=ah (show Calls Tryz.prog 37 #[.pointer (some ⟨ps,0,none⟩)] w9 fun r w'=>r= .returned (.int .i64 1)∧SX E pp ps (wU p1 o1 (q9 b [121] (0:Int).toNat) 1) w' from Qk S9);clear S9 WR;go_wp2_with fail;refine CT.out.mono ?_;rintro r wa ⟨rfl,Sa⟩;have HBa:=ah (HB3.out.trans (Sa.bel.mono HB3.out.size))
    clear Sa CT;go_wp2;go_ret;exact⟨rfl,HBa.out⟩
   ·have hgt:(1:Int)<(i:Int):=by omega
    have dg:decide ((1:Int)<(i:Int))=true:=decide_eq_true hgt;have dq:((i:Int)==1)=false:=by simp;omega
    have WR0:=xQ (id:=1) (a:=0) (t:=⟨#[120]⟩) S6 ⟨om,om⟩ ⟨om,om⟩ (by decide);rw[one_held om om (by have:=Q1.out;show 0+((1:Nat):Int)≤_;omega)] at WR0;have WR:=ah (show Calls Tryz.prog 34 #[.pointer (some ⟨ps,0,none⟩),.int .i64 1,.int .i64 0,.string ⟨#[120]⟩] w6 fun r w'=>r= .returned (jW ev 6)∧SX E pp ps (wU p1 o1 b i) w' from WR0);obtain⟨EV,hEV⟩:=eY (jW ev 6);rw[←hEV] at WR;have HEV:=ah hEV;clear WR0 S6 hEV;go_wp2_with fail;refine WR.out.mono ?_;rintro r w7 ⟨rfl,S7⟩;have CD0:=AB 6 6 w7 (EE.out _ (HB3.out.trans (S7.bel.mono HB3.out.size))) om rfl;rw[←HEV.out] at CD0;have CD:=ah (show Calls Tryz.prog 11 #[EV,.int .i64 6] w7 fun e w'=>e= .returned (.bool true)∧Below w7.heap.size w7 w' from CD0);have HS7:=ah S7;clear S7 CD0 WR;go_wp2_with fail;refine CD.out.mono ?_;rintro r w8 ⟨rfl,hb8⟩;have S8:=HS7.out.go hb8;have c1:(jO 0 [[0]] e p1 1 0).2.1=0:=HJ1.out.Ey (k:=1) (show qY [[0]] p1.d.c.L.length from S8.ord) om PR.out;have OW0:=sx_own (id:=1) S8 1 0 ⟨om,om⟩ (by show p1.last<_;have:=PL.out;omega) (by show(1:Int)<_;omega);rw[one_own (h:=i) om c1] at OW0;obtain⟨p2,hp2⟩:=eY ((jO 0 [[0]] e p1 1 0).1);obtain⟨o2,ho2⟩:=eY ((jO 0 [[0]] e p1 1 0).2.2);rw[←hp2,←ho2] at OW0;have OW:=ah (show Calls Tryz.prog 36 #[.pointer (some ⟨ps,0,none⟩),.int .i64 1,.int .i64 0,.int .i64 1] w8 fun r w'=>r= .returned (.tuple #[.int .i64 2,.nilIface])∧SX E pp ps (GI p2 o1 b (i-1) o2 b) w' from OW0);clear OW0 S8 hb8 c1 hp2 ho2 CD HS7;go_wp2_with fail;refine OW.out.mono ?_;rintro r w9 ⟨rfl,S9⟩;have RD0:=Bn (id:=2) (a:=0) (n:=(e:Int)) S9 ⟨om,om⟩ ⟨om,om⟩ ⟨om,by have:=Q1.out;omega⟩
    rw[two_bytes (.inr rfl) om om om,YN om om om,zG hbl.out,←HBS.out] at RD0;have RD:=ah (show Calls Tryz.prog 33 #[.pointer (some ⟨ps,0,none⟩),.int .i64 2,.int .i64 0,.int .i64 e] w9 fun r w'=>r= .returned (.tuple #[.string bs,.nilIface])∧SX E pp ps (GI p2 o1 b (i-1) o2 b) w' from RD0);clear RD0 S9 OW;go_wp2_with fail;refine RD.out.mono ?_;rintro r wa ⟨rfl,Sa⟩;have WR0:=xQ (id:=2) (a:=0) (t:=⟨#[121]⟩) Sa ⟨om,om⟩ ⟨om,om⟩ (by decide);rw[YO om (by have:=Q1.out;show 0+((1:Nat):Int)≤_;omega)] at WR0;obtain⟨b',hb'⟩: ∃b',b'=q9 b (⟨#[121]⟩:ByteArray).data.toList (0:Int).toNat:=⟨_,rfl⟩;rw[←hb'] at WR0;have WR:=ah (show Calls Tryz.prog 34 #[.pointer (some ⟨ps,0,none⟩),.int .i64 2,.int .i64 0,.string ⟨#[121]⟩] wa fun r w'=>r= .returned .nilIface∧SX E pp ps (GI p2 o1 b (i-1) o2 b') w' from WR0);clear WR0 Sa RD hb';go_wp2_with fail;refine WR.out.mono ?_;rintro r wb ⟨rfl,Sb⟩;have RD0:=Bn (id:=1) (a:=0) (n:=(e:Int)) Sb ⟨om,om⟩ ⟨om,om⟩ ⟨om,by have:=Q1.out;omega⟩;rw[two_bytes (.inl rfl) om om om,YM om om om,zG hbl.out,←HBS.out] at RD0;have RD:=ah (show Calls Tryz.prog 33 #[.pointer (some ⟨ps,0,none⟩),.int .i64 1,.int .i64 0,.int .i64 e] wb fun r w'=>r= .returned (.tuple #[.string bs,.nilIface])∧SX E pp ps (GI p2 o1 b (i-1) o2 b') w' from RD0);clear RD0 Sb WR;go_wp2_with fail;refine RD.out.mono ?_;rintro r wc ⟨rfl,Sc⟩;obtain⟨H,hH⟩: ∃H:Int,H=(i:Int)-1:=⟨_,rfl⟩;have wH:IntKind.i64.wrap ((i:Int)-1)=H:=by rw[hH];exact bB _ (by have:=Q2.out;omega)
    have HO0:=Sk (id:=1) Sc ⟨om,om⟩;rw[Bh] at HO0;simp only at HO0;rw[show((i-1:Nat):Int)=H by omega] at HO0;have HO:=ah HO0;clear HO0 Sc RD hH;go_wp2_with fail;refine HO.out.mono ?_;rintro r wd ⟨rfl,Sd⟩;have CT:=ah (show Calls Tryz.prog 37 #[.pointer (some ⟨ps,0,none⟩)] wd fun r w'=>r= .returned (.int .i64 2)∧SX E pp ps (GI p2 o1 b (i-1) o2 b') w' from Qk Sd);clear Sd HO;go_wp2_with fail;refine CT.out.mono ?_;rintro r we ⟨rfl,Se⟩;have HBe:=ah (HB3.out.trans (Se.bel.mono HB3.out.size));clear Se CT;go_wp2;go_ret;exact⟨rfl,HBe.out⟩
end Go.Proofs.YtehhldljdakgeaaGreatDoor
