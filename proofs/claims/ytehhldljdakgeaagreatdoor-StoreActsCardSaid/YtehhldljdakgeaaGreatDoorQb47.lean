/- Lemmas. -/
import Derived.Test.YtehhldljdakgeaaGreatDoorQb01
import Derived.Test.YtehhldljdakgeaaGreatDoorQb29
import Derived.Test.YtehhldljdakgeaaGreatDoorQb31
set_option linter.unusedSimpArgs false
set_option linter.unusedVariables false
set_option maxHeartbeats 16000000
set_option maxRecDepth 100000
namespace Go.Proofs.YtehhldljdakgeaaGreatDoor
open Go.RowKit Go.Maps Go.Proofs.Tryz
attribute [local go_sem ↓] aJ aK
section
open Go.RowKit Go.ChangeShapes
theorem len7 {α:Type} {l:List α} (h:l.length=7): ∃a b c d e f g,l=[a,b,c,d,e,f,g]:=by
 match l,h with
 |[a,b,c,d,e,f,g],_=>exact⟨a,b,c,d,e,f,g,rfl⟩
end
section
open Go.RowKit Go.ChangeShapes
end
section
variable {mn:Int} {O:List (List Int)} {e sz:Nat} {s:St} {k v id:Int} {x y:Bk} {L:List Bk}
theorem uG.own (hO:rM O s.p.d.c.L.length) (h:uG e sz s) (k v id:Int):uG e sz (Kg mn O e sz s k v id).1:=by
 unfold Kg;split
 ·exact h
 rename_i x hx;split
 ·exact h
 rename_i h1;obtain⟨m1,m2⟩:=mH hx;have hh:=h.hs x m1;obtain⟨ht,_⟩:=h.take (mn:=mn) hO k v;split
 ·rename_i h0
  by_cases h0':(kI mn O e s.p k v).2.1=0
  ·have e1:=qx (sz:=sz) h0'
   have hn:sO sz s (kI mn O e s.p k v).2.2∈(pW mn O e sz s k v).1.L:=by rw[e1];exact aj _ sI
   have hf:=uN ht.ndI hn;have hp:=ht.put (y:=(sO sz s (kI mn O e s.p k v).2.2).wr x.b) hf rfl rfl (h.len x m1) ⟨aI _,by show 1≤16;omega⟩;have hne:x.id≠(sO sz s (kI mn O e s.p k v).2.2).id:=by
    have:=(h.rng x m1).2;show x.id≠s.last+1;omega
   have hxm:x∈((pW mn O e sz s k v).1.put ((sO sz s (kI mn O e s.p k v).2.2).wr x.b)).L:=by
    show x∈Al _ _;unfold Al;refine bC.2 ⟨x,by rw[e1];exact av _ m1,?_⟩;exact if_neg hne
   exact hp.put (uN hp.ndI hxm) rfl rfl (h.len x m1) ⟨by show 1≤x.h-1;omega,by show x.h-1≤16;omega⟩
  ·rw[pJ h0'] at h0
   exact absurd h0 h0'
 ·exact ht
end
section
variable {w w':World} {ps pp bl sz:Nat} {C:BkL} {L:List Bk} {last:Int} {c:Bk×Nat×Nat} {id:Int} {B:Nat} {ev:Nat→Addr}
end
section
variable {pd pc pz e:Nat} {mn:Int} {O:List (List Int)} {ev:Nat→Addr} {w0:World} {E:sG pd pc pz e mn O ev w0} {X F S:List Nat} {w w':World} {ps pp sz:Nat} {s:St} {id:Int} {bl:Nat} {C:BkL} {c:Bk×Nat×Nat} {x y:Bk} {r:Value} {en:Ending}
theorem J5 (hid:kW id) (h:(vI (kQ E pp) ps pp e sz).S X F s w):
 Calls prog 38 #[.pointer (some ⟨ps,0,none⟩),.int .i64 id] w fun r w'=>r= .returned (match mW s.L id with|some x=>.tuple #[.int .i64 x.h,.nilIface]|none=>.tuple #[.int .i64 0,kM ev 4])∧Below w.heap.size w w':=by
 have hE:=xH h;obtain⟨⟨⟨bl,C⟩,q⟩,hi⟩:=h;cases hx:mW s.L id with
 |none=>
  have A:=ah (IB hE q.b hid (Cx q hx));simp only[show kM ev 4= .iface 336 (.pointer (some (ev 4))) from rfl];clear q hi hE hx;go_in
  go_wp2_with fail;refine A.out.mono ?_;rintro r w1 ⟨rfl,hb1⟩;go_wp2;go_ret2
  exact⟨rfl,hb1⟩
 |some x=>
  obtain⟨c,hc,rfl,hf⟩:=vW q hx;have A:=ah (x9 q.b hid hf);obtain⟨b1,b2⟩:=q.b.b c hc;have x3:=b1.gC 3;have xl:=b1.lt;obtain⟨hh,hhe⟩:=eY c.1.h;obtain⟨pb,hpb⟩:=eY c.2.1;simp only;rw[←hhe] at x3 ⊢;rw[←hpb] at x3 xl A;clear q hi hE hx hc hf b1 b2 hhe hpb;go_in
  go_wp2_with fail;refine A.out.mono ?_;rintro r w1 ⟨rfl,rfl⟩;go_wp2;go_ret2
  exact⟨rfl,aL _ _⟩
theorem xaq (h:(vI (kQ E pp) ps pp e sz).S X F s w):
 Calls prog 37 #[.pointer (some ⟨ps,0,none⟩)] w fun r w'=>r= .returned (.int .i64 s.L.length)∧w'=w:=by
 obtain⟨⟨⟨bl,C⟩,q⟩,hi⟩:=h;have c2:=q.b.c.gC 2;have cl:=q.b.c.lt;have lg:=fun ty=>q.b.m.len gQ ty
 have el:(Da C).length=s.L.length:=by rw[←q.b.l];simp[Da]
 rw[el] at lg;obtain⟨n,hn⟩:=eY s.L.length;rw[←hn] at lg ⊢;clear q hi el hn;go_in
 go_wp2;go_ret;exact⟨rfl,rfl⟩
end
section
variable {pd pc pz e:Nat} {mn:Int} {O:List (List Int)} {ev:Nat→Addr} {w0:World} {E:sG pd pc pz e mn O ev w0} {X F S:List Nat} {w w':World} {ps pp sz:Nat} {s:St} {id a n:Int} {bl:Nat} {C:BkL} {c:Bk×Nat×Nat} {x y:Bk} {last:Int} {L:List Bk}
theorem sown_any (k v:Int) (hid:kW id) (hsz:1≤sz∧sz≤65536) (hlast:s.p.last<4611686018427387903) (hl2:s.last<4611686018427387903) (h:(vI (kQ E pp) ps pp e sz).S X F s w):
 Calls prog 36 #[.pointer (some ⟨ps,0,none⟩),.int .i64 k,.int .i64 v,.int .i64 id] w (EPost (vI (kQ E pp) ps pp e sz).S X F (Kg mn O e sz s k v id).1 w (.tuple #[.int .i64 (Kg mn O e sz s k v id).2.2,kM ev (Kg mn O e sz s k v id).2.1])):=by
 have hE:=xH h;have SAME:=ah (fun r=>zm (r:=r) h);have hO:=PoX.ord (E:=E) (show PoX E X _ pp s.p w from h.1.choose_spec.s);have HI:=h.2.own (mn:=mn) hO k v id;revert HI;unfold Kg;cases hx:mW s.L id with
 |none=>
  intro _;obtain⟨⟨⟨bl,C⟩,q⟩,hi⟩:=h;have A:=ah (IB hE q.b hid (Cx q hx));simp only[show kM ev 4= .iface 336 (.pointer (some (ev 4))) from rfl];clear q hi hE hx hO hid hsz hlast hl2;go_in
  go_wp2_with fail;refine A.out.mono ?_;rintro r w1 ⟨rfl,hb1⟩;go_wp2;go_ret2
  exact SAME.out _ _ hb1
 |some x=>
  simp only;by_cases h1:x.h=1
  ·rw[if_pos h1]
   intro _;obtain⟨⟨⟨bl,C⟩,q⟩,hi⟩:=h;obtain⟨c,hc,rfl,hf⟩:=vW q hx;have A:=x9 q.b hid hf;obtain⟨b1,b2⟩:=q.b.b c hc;have x3:=b1.gC 3;have xl:=b1.lt;rw[h1] at x3;obtain⟨pb,hpb⟩:=eY c.2.1;rw[←hpb] at x3 xl A;have HA:=ah A;simp only[show kM ev 0= .nilIface from rfl];clear q hi hE hx hc hf b1 b2 hpb A h1 hO hid hsz hlast hl2;go_in
   go_wp2_with fail;refine HA.out.mono ?_;rintro r w1 ⟨rfl,hw1⟩;obtain rfl:=hw1.symm;go_wp2;go_ret2
   exact SAME.out _ _ (aL _ _)
  rw[if_neg h1];by_cases h0:(kI mn O e s.p k v).2.1=0
  ·have e1:=qx (sz:=sz) h0
   rw[e1];simp only;rw[if_pos trivial];intro HI;obtain⟨⟨⟨bl,C⟩,q⟩,hi⟩:=h;obtain⟨c,hc,rfl,hf⟩:=vW q hx;have hxm:=mH hx;have A:=x9 q.b hid hf;have TK:=ah (EZ (mn:=mn) k v hsz.2 hlast hl2 q hi h0);have HT:=(hi.take (mn:=mn) (sz:=sz) hO k v).1;rw[e1] at HT;obtain⟨b1,b2⟩:=q.b.b c hc;have x3:=b1.gC 3;have xl:=b1.lt;obtain⟨hh,hhe⟩:=eY c.1.h;have hge:=(hi.hs c.1 hxm.1);rw[←hhe] at x3 h1 hge;have d1:((hh:Int)==1)=false:=by simp;omega
   obtain⟨H,hH⟩: ∃H:Int,H=(hh:Int)-1:=⟨_,rfl⟩;have wl:IntKind.i64.wrap ((hh:Int)-1)=H:=by rw[hH];exact aY _ om
   have e1H:Hid (((c.1.h-1:Nat):Int)=H):=by show _=_;omega
   have FF:=ah (Ov.Run.start q).ff;obtain⟨nb,hnb⟩:=eY (sO sz s (kI mn O e s.p k v).2.2);have nbid:nb.id=s.last+1:=by rw[hnb];rfl
   have nbo:nb.b.length=sz:=by rw[hnb];simp[sO]
   have hlen:=hi.len c.1 hxm.1;have hne:c.1.id≠nb.id:=by have:=(hi.rng c.1 hxm.1).2;omega
   obtain⟨p',hp'⟩: ∃p',p'=(kI mn O e s.p k v).1:=⟨_,rfl⟩;rw[←hp',←hnb] at HT HI TK;rw[←hp',←hnb];obtain⟨l,hl⟩:=eY (s.last+1);have fl:kW l:=⟨by have:=hi.l0;omega,om⟩;rw[←hl] at HT HI TK nbid ⊢;have HC:=ah hc;have HTT:=ah HT;have HII:=ah HI;have HNI:=ah nbid;have HNO:=ah nbo;have HLE:=ah hlen;have HNE:=ah hne;have HFL:=ah fl;have HSZ:=ah hsz;have HA:=ah A;have HHE:=ah hhe;simp only[show kM ev 0= .nilIface from rfl];clear q hi hE hx hxm hc hf b1 b2 A h1 hO hid hsz hlast hl2 HT HI nbid nbo hlen hne fl hnb hp' hl hhe hH hge e1 h0 SAME;go_in
   go_wp2_with fail;refine HA.out.mono ?_;rintro r w1 ⟨rfl,hw1⟩;obtain rfl:=hw1.symm;go_wp2_with fail;refine TK.out.mono ?_;rintro r w1 ⟨pb,gb,rfl,X1,T1,K1,x1,x2⟩;clear x3 xl;have R1:(zh (kQ E pp) ps pp sz).Run X F w [] X1 (bl,C++[(nb,pb,gb)]) ⟨p',s.L++[nb],l⟩ w1:=⟨⟨⟨_,T1⟩,K1,x1,x2,fun b q=>by cases q⟩,T1,FF.out⟩;have SB1:StB w1 ps pp bl sz (C++[(nb,pb,gb)]) (s.L++[nb]) l:=T1.b;have nd1:((s.L++[nb]).map (·.id)).Nodup:=HTT.out.ndI;have hfn:mW (s.L++[nb]) l=some nb:=by
    have:=uN nd1 (aj _ (bL.2 rfl));rwa [HNI.out] at this
   obtain⟨c',hc',hn',_,hf'⟩:=SB1.has hfn;have hcm:c∈C++[(nb,pb,gb)]:=av _ HC.out;have hne':c'.1.id≠c.1.id:=by rw[hn'];exact HNE.out.symm
   obtain⟨a1,a2,a3,a4⟩:=SB1.apart hc' hcm hne';obtain⟨n1,n2⟩:=SB1.b c' hc';obtain⟨m1,m2⟩:=SB1.b c hcm;have kd:Keep [] w1 w1.drew:=(Keep.refl _ _).drew;have lk:=(SB1.m.keep kd sI).look1 (t:=158) uV gQ (Xl w1.drew) (keyOf_int_mk bB (wf64 HFL.out));rw[look_C,hf'] at lk;simp only[jN,iA] at lk;have lb:(lH c.1.b).length=sz:=by unfold lH;rw[dD];exact HLE.out
   have ln:(lH c'.1.b).length=sz:=by unfold lH;rw[dD,hn'];exact HNO.out
   have CP:=fun ty=>run_copy_cells (P:=prog) w1.drew 75 75 ty 5 c'.2.2 0 sz sz ⟨c.2.2,0,none⟩ sz sz (lH c.1.b) kR kR (by rw[lb];simp)
    (fun j u hj=>by rw[addr_add,bK];exact(m2.keep kd sI).c j u hj) (fun j hj=>by rw[bK,(n2.keep kd sI).c j _ (aA om)];rfl)
    (fun j hj=>by rw[bK];exact(n2.keep kd sI).f j om) (fun u hu=>by unfold lH at hu;obtain⟨b,_,rfl⟩:=bC.1 hu;rfl)
   have k12:Keep [c'.2.2] w1 (w1.drew.setCells c'.2.2 0 (lH c.1.b)):=ou _ _ ((Keep.refl _ _).drew) (.inl sI);have N2:=(n2.keep kd sI).sets (lH c.1.b) 0 om;rw[show(lH c'.1.b).take 0++lH c.1.b++(lH c'.1.b).drop (0+(lH c.1.b).length)=lH c.1.b from by rw[aV,dx,gI om,dw]] at N2;obtain⟨w2,hw2⟩:=eX (w1.drew.setCells c'.2.2 0 (lH c.1.b));rw[hw2] at CP k12 N2;have SB2:=StB.put (y:=nb.wr c.1.b) SB1 nd1 hc' (by rw[hn'];rfl) k12 (fun q t=>.inr (by simpa using t)) (by
    have:=n1.keep k12 (by simpa using SB1.two hc');rw[hn'] at this;exact this) N2
   have hc2:c∈Db (C++[(nb,pb,gb)]) (nb.wr c.1.b):=by
    unfold Db;exact bC.2 ⟨c,hcm,if_neg HNE.out⟩
   obtain⟨g1,g2⟩:=SB2.b c hc2;have y3:=g1.gC 3;have yf:=g1.f 3 (by simp[bkC]);have yl:=g1.lt;rw[←HHE.out] at y3;have k23:Keep [c.2.1] w2 (w2.setCell ⟨c.2.1,3,none⟩ (.int .i64 H)):=(Keep.refl _ _).setCell (p:=⟨c.2.1,3,none⟩) (.inl sI) _;have G3:=g1.store 3 (.int .i64 H) (by simp[bkC]);obtain⟨w3,hw3⟩:=eX (w2.setCell ⟨c.2.1,3,none⟩ (.int .i64 H));rw[hw3] at k23 G3;have SB3:=StB.put (y:=c.1.hold (c.1.h-1)) SB2 (by rw[AX];exact nd1) hc2 rfl k23 (fun q t=>.inl (by simpa using t)) (by
    have:bkC c.2.2 sz (c.1.hold (c.1.h-1))=(bkC c.2.2 sz c.1).set 3 (.int .i64 H):=by
     show[_,_,_,Value.int .i64 ((c.1.h-1:Nat):Int)]=_;rw[e1H.out];rfl
    rw[this];exact G3) (g2.keep k23 (by simpa using(SB2.two hc2).symm))
   have wsm: ∀{y:Nat},y∈sws ps bl (Db (Db (C++[(nb,pb,gb)]) (nb.wr c.1.b)) (c.1.hold (c.1.h-1)))→y∈sws ps bl (C++[(nb,pb,gb)]):=fun {y} hy=>by
    unfold sws at hy ⊢;rwa [Gj,Gj] at hy
   have k13:Keep ((zh (kQ E pp) ps pp sz).ws (bl,C++[(nb,pb,gb)])++[]) w1 w3:=by
    rw[dw];exact(k12.mono (fun q t=>by simp at t;subst t;exact mU.2 (.inr (.inr (pK.2 ⟨c',hc',.inr rfl⟩))))).then (k23.mono (fun q t=>by simp at t;subst t;exact mU.2 (.inr (.inr (pK.2 ⟨c,hcm,.inl rfl⟩)))))
   have hb':(zh (kQ E pp) ps pp sz).B (bl,Db (Db (C++[(nb,pb,gb)]) (nb.wr c.1.b)) (c.1.hold (c.1.h-1))) (((⟨p',s.L++[nb],l⟩:St).put (nb.wr c.1.b)).put (c.1.hold (c.1.h-1))) w3:=SB3;obtain⟨X3,R3⟩:=Ov.Run.put (V:=zh (kQ E pp) ps pp sz) (m:=(bl,C++[(nb,pb,gb)])) (m':=(bl,Db (Db (C++[(nb,pb,gb)]) (nb.wr c.1.b)) (c.1.hold (c.1.h-1)))) (t':=((⟨p',s.L++[nb],l⟩:St).put (nb.wr c.1.b)).put (c.1.hold (c.1.h-1))) (L':=[]) R1 k13 (fun q t=>.inl (wsm t)) (fun y t=>aC (T1.lim y (wsm t)).2 k13.size) (fun q t=>by cases t) hb' rfl;have HR3:=ah R3;have z2:=SB1.c.gC 2;have zl:=SB1.c.lt;have u2:=n1.gC 2;have ul:=n1.lt;have v2:=m1.gC 2;have vl:=m1.lt;clear T1 K1 x1 x2 R1 SB1 nd1 hfn hc' hn' hf' hcm hne' a1 a2 a3 a4 n1 n2 m1 m2 kd lb ln k12 N2 hw2 SB2 hc2 g1 g2 k23 G3 SB3 wsm k13 hb' R3;go_wp2_with fail;refine lJ 13 kR kR ?_;simp only[aQ,aV,aP,aU];repeat still_step
   refine wpStill_nil ?_;go_wp2;go_ret2
   exact FEnv.sV HR3.out.fin HII.out
  ·have TN:=ah (QE (mn:=mn) k v hlast h h0)
   have hcc:(kI mn O e s.p k v).2.1=2∨(kI mn O e s.p k v).2.1=8:=by
    rcases vV (mn:=mn) (k:=k) (v:=v) h.2.p h.2.w h.2.cl h.2.g hO with⟨c0,_⟩|⟨c2,_⟩|⟨c8,_⟩
    ·exact absurd c0 h0
    ·exact .inl c2
    ·exact .inr c8
   rw[pJ h0];simp only;rw[if_neg h0];intro _;obtain⟨q,hq⟩: ∃q,kM ev (kI mn O e s.p k v).2.1= .iface 336 (.pointer (some q)):=by rcases hcc with r|r<;>(rw[r];exact⟨_,rfl⟩)
   rw[hq] at TN ⊢;obtain⟨⟨⟨bl,C⟩,t⟩,hi⟩:=h;obtain⟨c,hc,rfl,hf⟩:=vW t hx;have A:=x9 t.b hid hf;obtain⟨b1,b2⟩:=t.b.b c hc;have x3:=b1.gC 3;have xl:=b1.lt;have d1:((c.1.h:Int)==1)=false:=by simp;omega
   obtain⟨hh,hhe⟩:=eY c.1.h;obtain⟨pb,hpb⟩:=eY c.2.1;rw[←hhe] at x3 d1;rw[←hpb] at x3 xl A;have HA:=ah A;clear t hi hE hx hc hf b1 b2 hhe hpb A h1 hO hid hsz hlast hl2 h0 hcc hq SAME;go_in
   go_wp2_with fail;refine HA.out.mono ?_;rintro r w1 ⟨rfl,hw1⟩;obtain rfl:=hw1.symm;go_wp2_with fail;refine TN.out.mono ?_;rintro r w1 ⟨rfl,hp2⟩;have HP2:=ah hp2;clear hp2;go_wp2;go_ret2
   exact⟨rfl,HP2.out⟩
end
def Fa (x:Bk):List Value:=[.int .i64 x.id,.int .i64 x.o.1,.int .i64 x.o.2,.string ⟨x.b.toArray⟩,.int .i64 x.h]
def DR (bs:List Nat):List Value:=bs.map fun b=>.pointer (some ⟨b,0,none⟩)
def mg (pq sz:Nat) (vl:Value) (last:Int):List Value:=[.pointer (some ⟨pq,0,none⟩),.int .i64 sz,vl,.int .i64 last]
abbrev RBk:=List (Bk×Nat)
def Fb (ps:Nat) (vl:Value) (C:RBk):List Nat:=ps::(jS vl++C.map (·.2))
structure tY (B:Nat) (w:World) (ps pq sz:Nat) (vl:Value) (C:RBk) (L:List Bk) (last:Int):Prop where
 c:jR w ps (mg pq sz vl last)
 r:w.ownsRow B 90 1 vl L.length (DR (C.map (·.2)))
 l:C.map (·.1)=L
 b: ∀c∈C,jR w c.2 (Fa c.1)
 nd:(Fb ps vl C).Nodup
section
variable {B B':Nat} {w w':World} {S:List Nat} {ps pq sz:Nat} {vl vl':Value} {C:RBk} {L:List Bk} {last last':Int} {c:Bk×Nat} {x y:Bk} {id:Int} {b:Nat}
theorem mh:b∈Fb ps vl C↔b=ps∨b∈jS vl∨∃c∈C,b=c.2:=by
 unfold Fb;rw[aB,aD,bC];constructor
 ·rintro(q|q|⟨c,hc,q⟩)
  ·exact .inl q
  ·exact .inr (.inl q)
  ·exact .inr (.inr ⟨c,hc,q.symm⟩)
 ·rintro(q|q|⟨c,hc,q⟩)
  ·exact .inl q
  ·exact .inr (.inl q)
  ·exact .inr (.inr ⟨c,hc,q.symm⟩)
theorem tY.keep (h:tY B w ps pq sz vl C L last) (k:Keep S w w') (hs: ∀s∈S,s∉Fb ps vl C):tY B w' ps pq sz vl C L last:=
 ⟨h.c.keep k fun q=>hs _ q (mh.2 (.inl rfl)),jQ h.r k fun s q r=>hs s q (mh.2 (.inr (.inl r))),h.l,fun c hc=>(h.b c hc).keep k fun q=>hs _ q (mh.2 (.inr (.inr ⟨c,hc,rfl⟩))),h.nd⟩
theorem tY.ne (h:tY B w ps pq sz vl C L last):ps∉jS vl∧(∀c∈C,c.2≠ps∧c.2∉jS vl)∧(C.map (·.2)).Nodup:=by
 obtain⟨n1,n2⟩:=aS.1 h.nd;obtain⟨n3,n4,n5⟩:=bF.1 n2;rw[aD,not_or] at n1;exact⟨n1.1,fun c hc=>⟨fun q=>n1.2 (q▸bC.2 ⟨c,hc,rfl⟩),fun q=>n5 _ q _ (bC.2 ⟨c,hc,rfl⟩) rfl⟩,n4⟩
theorem zV {α β:Type} {f:α→β}: ∀{C:List α} {a b:α},(C.map f).Nodup→a∈C→b∈C→f a=f b→a=b
 |[],a,b,_,h,_,_=>by cases h
 |c::C,a,b,hn,ha,hb,e=>by
  rw[bH,aS] at hn;rcases aB.1 ha with rfl|ha'
  ·rcases aB.1 hb with rfl|hb'
   ·rfl
   ·exact absurd (bC.2 ⟨b,hb',e.symm⟩) hn.1
  ·rcases aB.1 hb with rfl|hb'
   ·exact absurd (bC.2 ⟨a,ha',e⟩) hn.1
   ·exact zV hn.2 ha' hb' e
theorem tY.find (h:tY B w ps pq sz vl C L last) (id:Int):mW L id=(C.find? fun c=>c.1.id==id).map (·.1):=by
 unfold mW;rw[←h.l,List.find?_map];rfl
theorem tY.has (h:tY B w ps pq sz vl C L last) (hx:mW L id=some x): ∃c∈C,c.1=x∧x.id=id∧C.find? (fun c=>c.1.id==id)=some c:=by
 rw[h.find] at hx;obtain⟨c,h1,h2⟩:=dh.1 hx;have h3:=gU h1;exact⟨c,dJ h1,h2,by rw[←h2];simpa using h3,h1⟩
theorem tY.nohas (h:tY B w ps pq sz vl C L last) (hx:mW L id=none):C.find? (fun c=>c.1.id==id)=none:=by
 rw[h.find] at hx;exact gJ.1 hx
def vH (C:RBk) (y:Bk):RBk:=C.map fun a=>if a.1.id=y.id then(y,a.2) else a
theorem xar:(vH C y).map (·.1)=Al (C.map (·.1)) y:=by
 unfold vH Al;rw[eH,eH];refine fq fun a _=> ?_
 simp only[Function.comp];split<;>rfl
theorem J6:(vH C y).map (·.2)=C.map (·.2):=by
 unfold vH;rw[eH];refine fq fun a _=> ?_
 simp only[Function.comp];split<;>rfl
theorem AY:Fb ps vl (vH C y)=Fb ps vl C:=by unfold Fb;rw[J6]
theorem tY.put (h:tY B w ps pq sz vl C L last) (hn:(L.map (·.id)).Nodup) (hc:c∈C) (hi:y.id=c.1.id) (k:Keep S w w') (hs: ∀s∈S,s=c.2) (h1:jR w' c.2 (Fa y)):
 tY B w' ps pq sz vl (vH C y) (Al L y) last:=by
 obtain⟨n1,n2,n3⟩:=h.ne;refine⟨h.c.keep k fun q=>(n2 c hc).1 (hs _ q).symm,?_,by rw[xar,h.l],fun a ha=> ?_,by rw[AY];exact h.nd⟩
 ·rw[J6,show(Al L y).length=L.length by unfold Al;rw[dD]]
  exact jQ h.r k fun s q r=>(n2 c hc).2 (hs s q▸r)
 ·unfold vH at ha
  obtain⟨a',ha',rfl⟩:=bC.1 ha;by_cases e:a'.1.id=y.id
  ·rw[if_pos e]
   have ea:a'=c:=by
    rw[←h.l,eH] at hn;exact zV hn ha' hc (e.trans hi)
   rw[ea];exact h1
  ·rw[if_neg e]
   refine(h.b a' ha').keep k fun q=>e ?_
   rw[zV n3 ha' hc (hs _ q)];exact hi.symm
theorem tY.at (h:tY B w ps pq sz vl C L last) {i:Nat} (hx:C[i]?=some c): ∃g k,vl= .slice (some ⟨g,0,none⟩) L.length k∧L.length≤k∧k≤maxLen∧g<w.heap.size∧w.cell? ⟨g,i,none⟩=some (.pointer (some ⟨c.2,0,none⟩)):=by
 have hi:i<L.length:=by rw[←h.l,dD];exact(au.1 hx).1
 have hr:=h.r;rcases hr.2 with⟨_,h3⟩|⟨g,cap,cur,e,_,_,hc,hm,_⟩
 ·omega
 ·subst e
  refine⟨g,cap,rfl,hc,hm,(hr.lt g rfl).2,?_⟩;rw[hr.cellAt i om];unfold DR;rw[eH,gq,hx];rfl
end
def rJ {w0:World} (P:FEnv Po w0) (ps pq sz:Nat):Ov P St where
 M:=Value×RBk
 pi s:=s.p
 set s d:=s.atP d;ws m:=Fb ps m.1 m.2
 B m s w:=tY w0.heap.size w ps pq sz m.1 m.2 s.L s.last
 keep h k hs:=h.keep k hs
 at_ d h:=h
 pis t d:=rfl
def sS {w0:World} (P:FEnv Po w0) (ps pq e sz:Nat):FEnv St w0:=(rJ P ps pq sz).env.with (uG e sz)
theorem xas {σ:Type} {w0 w1 w W:World} {A:FEnv σ w0} {pd e pq:Nat} {mn:Int} {O:List (List Int)} {D:vC pd e mn O w1} {L:List Nat} {d:σ} {q:Po} (h:lT A (jX D pq) w L d q W) (hI:uG e e ⟨q,[],0⟩):
 lT A (sS (jX D pq) W.heap.size pq e e) w L d ⟨q,[],0⟩ (W.alloc (.cells #[.pointer (some ⟨pq,0,none⟩),.int .i64 e,.slice none 0 0,.int .i64 0] 89)):=by
 obtain⟨X,F,Y,G,t⟩:=h;have kb:Below W.heap.size W (W.alloc (.cells #[.pointer (some ⟨pq,0,none⟩),.int .i64 e,.slice none 0 0,.int .i64 0] 89)):=(aL _ _).alloc (aI _) _;have C:=jR.new W (mg pq e (.slice none 0 0) 0) 89;have lim:=(jX D pq).lim t.t;have T:(rJ (jX D pq) W.heap.size pq e).T ([W.heap.size]++Y) G (.slice none 0 0,[]) ⟨q,[],0⟩ (W.alloc (.cells #[.pointer (some ⟨pq,0,none⟩),.int .i64 e,.slice none 0 0,.int .i64 0] 89)):=
  ⟨(jX D pq).uS (Y:=[W.heap.size]) (G:=[]) t.t (Keep.of kb) (fun g q=>by cases q) (fun y hy=>by simp at hy;subst hy;simp),⟨C,aT _ _ _ _,rfl,fun c hc=>(by cases hc),by unfold Fb;simp[jS,Value.ownBlock]⟩,fun f hf q=>by
    have:=(lim f ((jX D pq).sU t.t f hf)).2;have q':f=W.heap.size∨_:=mh.1 q;rcases q' with r|r|⟨c,r,_⟩
    ·omega
    ·simp[jS,Value.ownBlock] at r
    ·cases r⟩
 exact t.turn2 (D':=sS (jX D pq) W.heap.size pq e e) (m':=⟨q,[],0⟩) ⟨⟨_,T⟩,hI⟩ (Keep.of kb) (fun x hx=>by
  rcases aD.1 hx with r|r
  ·simp at r;exact .inr om
  ·exact .inl r)
def ShelfDOk (w:World) (ev:Nat→Addr) (e:Nat) (en:Ending) (w':World):Prop:=
 ∃(w3:World) (pd pc pz:Nat) (E:sG pd pc pz e 0 [[0]] ev w3) (pdm:Nat) (D:vC pdm e 0 [[0]] w3) (pp pq ps pm:Nat) (q:Po),en= .returned (.tuple #[.pointer (some ⟨ps,0,none⟩),.pointer (some ⟨pm,0,none⟩),.bool true])∧
  lT (vI (kQ E pp) ps pp e e) (sS (jX D pq) pm pq e e) w [] ⟨q,[],0⟩ ⟨q,[],0⟩ w'∧q.last=0
theorem Ug {B:Nat} {ev:Nat→Addr} (p e:Nat) (w:World) (hE:qC B ev w) (hp:1≤p∧p≤256) (he:1≤e∧e≤64):
 Calls prog 29 #[.int .i64 p,.int .i64 e] w (ShelfDOk w ev e):=by
 have hB:=hE.size;have DP:=ah (show Calls prog 8 #[.int .i64 p,.int .i64 0,.int .i64 e,.int .i64 2] w _ from yU p 0 e 2 w hE (FE om om) om he.1 he.2 om om);have HE:=ah hE;have HEE:=ah he;have HPP:=ah hp;clear hE he hp;go_in
 go_wp2_with fail;refine DP.out.mono ?_;rintro r w2 ⟨w3,X,pd,pc,pz,gh,pdm,ghm,pcm,pm,gN,x,rfl,b13,hz,hxn,hxF,hxT,b12⟩;have z3:=b13.size;have e3:qC w3.heap.size ev w3:=(HE.out.go b13).up om (aI _);obtain⟨d0,hd0⟩: ∃d0:De,d0=⟨⟨[x],[]⟩,List.replicate 2 ([],[]),[]⟩:=⟨_,rfl⟩;rw[←hd0] at hz;have hI0:pU e d0:=hz.inv;have DX0:=WS e3 b13 hz hI0;have hH0:0<d0.H.length:=by rw[hd0];simp
 have hM0:MoI e [] d0:=by
  rw[hd0];refine⟨dR,fun y hy=>(by cases hy),fun y=> ?_⟩;constructor
  ·intro q;simp[qj] at q
  ·rintro(q|q)
   ·cases q
   ·simp[held,mQ] at q
 have hx:Inv x.n x.F x.T:=hI0.c.zi x (by rw[hd0];simp);have hO:rM [[0]] 1:=⟨rfl,fun D hD=>by simp at hD;subst hD;exact⟨rfl,fun x=>by simp;omega⟩⟩;have MD:zT p e 0 2 d0:=⟨hI0,by rw[hd0];exact qV.start hx HEE.out.1 HEE.out.2 hxF,by rw[hd0],by rw[hd0]⟩;obtain⟨f1,f2,f3⟩:=MD.fill1 hO (by have:=rZ HEE.out.1 HEE.out.2;exact Nat.mul_pos (by have:=HPP.out;omega) om) om;have CT1:=ah (wX 1 DX0 om hM0 hH0 f1);have CT2:Hid (∀(pp:Nat) (s:Po) (T:World),lT (kQ (VZ (pd:=pd) (pc:=pc) (pz:=pz) (e:=e) (mn:=0) (O:=[[0]]) gh 0 0 e3).dr pp) (envR w3 pdm ghm pcm pm gN e 0 0 0 [[0]]).toFEnv w [] s d0 T→_):=fun pp s T h=>vU 1 h om hM0 hH0 f1
 obtain⟨q0,hq0⟩:=eY (uq (mM 0 [[0]] e 0 1 d0 []).1 1 (mM 0 [[0]] e 0 1 d0 []).2.1);have F1:Hid (zT p e 1 2 q0.d∧q0.R.length=1∧q0.T=[]∧q0.W=[]∧q0.G=[]∧q0.last=0∧q0.cl=false∧q0.most=1):=by
  subst hq0;exact⟨f2,f3,rfl,rfl,rfl,rfl,rfl,rfl⟩
 rw[←hq0] at CT1 CT2;have HB13:=ah b13;generalize VZ (pd:=pd) (pc:=pc) (pz:=pz) (e:=e) (mn:=0) (O:=[[0]]) gh 0 0 e3=E0 at CT1 CT2;generalize envR w3 pdm ghm pcm pm gN e 0 0 0 [[0]]=D0 at CT1 CT2;clear DP hz hd0 DX0 e3 hI0 hH0 hM0 hxn hxF hxT b13 b12 z3 hx hO MD f1 f2 f3 hq0;go_wp2_with fail;refine CT1.out.mono ?_;rintro r w4 ⟨pp,rfl,DX4⟩;have CT2':=ah (CT2.out _ _ _ DX4);clear CT1 CT2 DX4;go_wp2_with fail;refine CT2'.out.mono ?_;rintro r w5 ⟨pq,rfl,DX5⟩;obtain⟨X5,F5,Y5,G5,t5⟩:=DX5;obtain⟨m1,m2,m3,m4,m5,m6,m7,m8⟩:=F1.out;have hIS:uG e e ⟨q0,[],0⟩:=⟨(show PoX E0.dr X5 F5 pp q0 w5 from t5.s).2,m4,m5,m7,List.Pairwise.nil,fun x q=>(by cases q),fun x q=>(by cases q),fun x q=>(by cases q),fun x q=>(by cases q),dR,bZ _⟩;have SN:=ah (QF (E:=E0.dr) (sz:=e) HEE.out t5.s hIS);have HT5:=ah t5;have HIS:=ah hIS;clear CT2' t5 m1 m2 m3 m4 m5 m6 m7 m8 hIS;go_wp2_with fail;refine SN.out.mono ?_;rintro r w6 ⟨ps,X6,rfl,hs6,hb6,hn6⟩;have DX6:=HT5.out.turn1 (E':=vI (kQ E0.dr pp) ps pp e e) (d':=⟨q0,[],0⟩) hs6 (Keep.of hb6) hn6;have DX7:=ah (xas DX6 HIS.out);clear hs6 hb6 hn6 SN DX6 HT5;go_wp2;refine bodyPost_ret (v:=.tuple #[.pointer (some ⟨ps,0,none⟩),.pointer (some ⟨w6.heap.size,0,none⟩),.bool true]) (by simp[results,Tryz.results29,go_sem]) rfl ?_;exact⟨w3,pd,pc,pz,E0.dr,_,D0,pp,pq,ps,w6.heap.size,q0,rfl,DX7.out,F1.out.2.2.2.2.2.1⟩
theorem xat {B:Nat} {ev:Nat→Addr} (p size:Int) (w:World) (hE:qC B ev w) (h:uF [p] [[0]] 0 0 0≠0∨size<1∨64<size):
 Calls prog 29 #[.int .i64 p,.int .i64 size] w fun r w'=>r= .returned (.tuple #[.pointer none,.pointer none,.bool false])∧Below w.heap.size w w':=by
 have DN:=ah (show Calls prog 8 #[.int .i64 p,.int .i64 0,.int .i64 size,.int .i64 2] w _ from Qz p 0 size 2 w hE h om om);clear hE h;go_in
 go_wp2_with fail;refine DN.out.mono ?_;rintro r w2 ⟨rfl,hb2⟩;go_wp2;exact bodyPost_ret (v:=.tuple #[.pointer none,.pointer none,.bool false]) (by simp[results,Tryz.results29,go_sem]) rfl ⟨rfl,hb2⟩
def optP (o:Option (Bk×Nat)):Value:=.pointer (o.map fun c=>⟨c.2,0,none⟩)
section
variable {B:Nat} {w w':World} {ps pq sz:Nat} {vl:Value} {C:RBk} {L:List Bk} {last id:Int} {c:Bk×Nat} {x y:Bk} {S:List Nat}
theorem qfind_at {j:Nat} (hx:C[j]?=some c) (hno: ∀(i:Nat) (a:Bk×Nat),i<j→C[i]?=some a→a.1.id≠id) (e:c.1.id=id):C.find? (fun c=>c.1.id==id)=some c:=by
 induction C generalizing j with
 |nil=>simp at hx
 |cons a C ih=>
  rw[fU];cases j with
  |zero=>simp at hx;subst hx;simp[e]
  |succ j=>
   have h0:=hno 0 a om rfl;have:(a.1.id==id)=false:=by simpa using h0
   rw[this];exact ih (by simpa using hx) fun i b hi hb=>hno (i+1) b om (by simpa using hb)
theorem qfind_no (hno: ∀(i:Nat) (a:Bk×Nat),i<C.length→C[i]?=some a→a.1.id≠id):C.find? (fun c=>c.1.id==id)=none:=by
 rw[fB];intro a ha;obtain⟨i,hi,rfl⟩:=List.getElem_of_mem ha;simpa using hno i _ hi (aA hi)
theorem qy (id:Int) (h:tY B w ps pq sz vl C L last) (hl:L.length≤65536):
 Calls prog 86 #[.pointer (some ⟨ps,0,none⟩),.int .i64 id] w fun r w'=>r= .returned (optP (C.find? fun c=>c.1.id==id))∧w'=w:=by
 have c2:=h.c.gC 2;have cl:=h.c.lt;have hcl:C.length=L.length:=by rw[←h.l];simp
 obtain⟨vq,vk,hvl⟩: ∃vq vk,vl= .slice vq L.length vk:=l6 h.r;have AT:Hid (∀(i:Nat) (c:Bk×Nat),C[i]?=some c→∃g,vq=some ⟨g,0,none⟩∧L.length≤vk∧vk≤maxLen∧g<w.heap.size∧w.cell? ⟨g,i,none⟩=some (.pointer (some ⟨c.2,0,none⟩))∧w.cell? ⟨c.2,0,none⟩=some (.int .i64 c.1.id)∧c.2<w.heap.size):=fun i c hi=>by
  obtain⟨g,k,e,h1,h2,h3,h4⟩:=h.at hi;rw[hvl] at e;injection e with e1 e2 e3;subst e1 e3;have hb:=h.b c (aF hi);exact⟨g,rfl,h1,h2,h3,h4,hb.gC 0,hb.lt⟩
 obtain⟨r,hr⟩:=eY (C.find? fun c=>c.1.id==id);have HR:=ah hr;obtain⟨n,hn⟩:=eY L.length;subst hvl;rw[←hn] at c2 hcl AT hl;rw[←hr];have HCL:=ah hcl;clear h hr hn hcl;go_in
 go_wp2;go_loop [5] (fun iv=>∃j:Nat,j≤n∧iv= .int .i64 j∧Hid (∀(i:Nat) (a:Bk×Nat),i<j→C[i]?=some a→a.1.id≠id)) (fun iv=>n-(intOf iv).toNat)
 case atStart=>exact⟨0,om,by go_num,fun i a hi=>om⟩
 case round=>
  obtain⟨j,hj,rfl,HJ⟩:=hrel;have j0:(0:Int)≤(j:Int):=om;by_cases hjn:j<n
  ·obtain⟨c,ha⟩: ∃c,C[j]?=some c:=⟨C[j]'(by rw[HCL.out];exact hjn),aA _⟩
   obtain⟨g,rfl,e1,e2,e3,e4,e5,e6⟩:=AT.out j c ha;unfold maxLen at e2;have HA:=ah ha;have j1:(j:Int)<(n:Int):=om;clear ha;by_cases hax:c.1.id=id
   ·have ev:r=some c:=by rw[HR.out];exact qfind_at HA.out HJ.out hax
    subst ev;have hax':(c.1.id==id)=true:=by simpa using hax
    go_wp2;go_ret;exact⟨rfl,rfl⟩
   ·have hax':(c.1.id==id)=false:=by simpa using hax
    have HAX:=ah hax;clear hax;go_wp2;go_round
    case rel=>exact⟨j+1,om,by go_num,fun i a hi q=>by
     rcases dP.1 hi with t|t
     ·exact HJ.out i a t q
     ·subst t;rw[HA.out] at q;obtain rfl:=aO q;exact HAX.out⟩
    case measure=>simp[intOf];omega
  ·obtain rfl:j=n:=by omega
   have ev:r=none:=by rw[HR.out];exact qfind_no fun i a hi=>HJ.out i a (by rw[←HCL.out];exact hi)
   subst ev;go_wp2;go_ret;exact⟨rfl,rfl⟩
end
section
variable {pd e:Nat} {mn:Int} {O:List (List Int)} {w0:World} {E:vC pd e mn O w0} {X F S:List Nat} {w w':World} {ps pq sz:Nat} {s:St} {id a n:Int} {vl:Value} {C:RBk} {c:Bk×Nat} {x y:Bk} {r:Value} {en:Ending}
theorem xI (h:(sS (jX E pq) ps pq e sz).S X F s w): ∀W,Below w.heap.size w W→EPost (sS (jX E pq) ps pq e sz).S X F s w r (.returned r) W:=fun W b=>⟨rfl,X,(sS (jX E pq) ps pq e sz).go h b,Keep.of b,fun _ q=>.inl q,fun _ q=>q⟩
theorem Pf (h:(rJ (jX E pq) ps pq sz).T X F (vl,C) s w) (hi:uG e sz s) (hc:c∈C) (hy:y.id=c.1.id) (k:Keep S w w') (hs: ∀q∈S,q=c.2) (h1:jR w' c.2 (Fa y)) (hI:uG e sz (s.put y)):
 EPost (sS (jX E pq) ps pq e sz).S X F (s.put y) w r (.returned r) w':=by
 have hb:tY w0.heap.size w' ps pq sz vl (vH C y) (Al s.L y) s.last:=tY.put h.b hi.ndI hc hy k hs h1;have hw: ∀q,q∈(rJ (jX E pq) ps pq sz).ws (vl,vH C y)→q∈(rJ (jX E pq) ps pq sz).ws (vl,C):=fun q t=>by
  have t':q∈Fb ps vl (vH C y):=t;rw[AY] at t';exact t'
 have hk:Keep ((rJ (jX E pq) ps pq sz).ws (vl,C)++[]) w w':=k.mono fun q t=>by
  rw[dw];exact mh.2 (.inr (.inr ⟨c,hc,hs q t⟩))
 have hb':(rJ (jX E pq) ps pq sz).B (vl,vH C y) (s.put y) w':=hb;obtain⟨X',R⟩:=Ov.Run.put (V:=rJ (jX E pq) ps pq sz) (m:=(vl,C)) (m':=(vl,vH C y)) (t':=s.put y) (L':=[]) (Ov.Run.start h) hk (fun q t=>.inl (hw q t)) (fun q t=>aC (h.lim q (hw q t)).2 k.size) (fun q t=>by cases t) hb' rfl;exact FEnv.sV R.fin hI
theorem Uh (id:Int) (h:(sS (jX E pq) ps pq e sz).S X F s w):
 Calls prog 83 #[.pointer (some ⟨ps,0,none⟩),.int .i64 id] w (EPost (sS (jX E pq) ps pq e sz).S X F (wZ s id).1 w (.int .i64 (wZ s id).2)):=by
 have SAME:=ah (fun r=>xI (r:=r) h);have HI:=h.2.hold id;obtain⟨⟨⟨vl,C⟩,q⟩,hi⟩:=h;have A:=qy id q.b hi.few;revert HI;unfold wZ;cases hx:mW s.L id with
 |none=>
  intro _;rw[tY.nohas q.b hx] at A;have HA:=ah (show Calls prog 86 #[.pointer (some ⟨ps,0,none⟩),.int .i64 id] w fun r w'=>r= .returned (.pointer none)∧w'=w from A);clear q hi hx A;go_in
  go_wp2_with fail;refine HA.out.mono ?_;rintro r w1 ⟨rfl,hw1⟩;obtain rfl:=hw1.symm;go_wp2;go_ret;exact SAME.out _ _ (aL _ _)
 |some x=>
  obtain⟨c,hc,rfl,_,hf⟩:=tY.has q.b hx;rw[hf] at A;have b1:=q.b.b c hc;have x4:=b1.gC 4;have xf:=b1.f 4 (by simp[Fa]);have xl:=b1.lt;simp only;by_cases h16:16≤c.1.h
  ·rw[if_pos h16]
   intro _;have d16:decide ((16:Int)≤(c.1.h:Int))=true:=dQt om;obtain⟨hh,hhe⟩:=eY c.1.h;obtain⟨pb,hpb⟩:=eY c.2;rw[←hhe] at x4 d16 h16;rw[←hpb] at x4 xl;have HA:=ah (show Calls prog 86 #[.pointer (some ⟨ps,0,none⟩),.int .i64 id] w fun r w'=>r= .returned (.pointer (some ⟨pb,0,none⟩))∧w'=w from hpb▸A);clear q hi hx hc hf b1 hhe hpb xf A;go_in
   go_wp2_with fail;refine HA.out.mono ?_;rintro r w1 ⟨rfl,hw1⟩;obtain rfl:=hw1.symm;go_wp2;go_ret;exact SAME.out _ _ (aL _ _)
  ·rw[if_neg h16]
   intro HI;have d16:decide ((16:Int)≤(c.1.h:Int))=false:=dQf om;have wl:IntKind.i64.wrap ((c.1.h:Int)+1)=(c.1.h:Int)+1:=aY _ om;have FIN:Hid (∀w',w'=w.setCell ⟨c.2,4,none⟩ (.int .i64 ((c.1.h:Int)+1))→EPost (sS (jX E pq) ps pq e sz).S X F (s.put (c.1.hold (c.1.h+1))) w (.int .i64 0) (.returned (.int .i64 0)) w'):=fun w' hw'=>by
    subst hw';have k:Keep [c.2] w (w.setCell ⟨c.2,4,none⟩ (.int .i64 ((c.1.h:Int)+1))):=(Keep.refl _ _).setCell (p:=⟨c.2,4,none⟩) (.inl sI) _;exact Pf q hi hc rfl k (fun q t=>by simpa using t) (b1.store 4 (.int .i64 ((c.1.h:Int)+1)) (by simp[Fa])) HI
   obtain⟨hh,hhe⟩:=eY c.1.h;obtain⟨pb,hpb⟩:=eY c.2;have HH:=ah hhe;rw[←hhe] at x4 d16 h16 wl;rw[←hpb] at x4 xl xf;have HA:=ah (show Calls prog 86 #[.pointer (some ⟨ps,0,none⟩),.int .i64 id] w fun r w'=>r= .returned (.pointer (some ⟨pb,0,none⟩))∧w'=w from hpb▸A);have HPB:=ah hpb;clear q hi hx hc hf b1 hhe hpb A HI;go_in
   go_wp2_with fail;refine HA.out.mono ?_;rintro r w1 ⟨rfl,hw1⟩;obtain rfl:=hw1.symm;go_wp2;go_ret;exact FIN.out _ (by rw[←HPB.out,←HH.out])
theorem CY (id a n:Int) (ha:kW a) (hn:kW n) (hsz:sz≤65536) (h:(sS (jX E pq) ps pq e sz).S X F s w):
 Calls prog 85 #[.pointer (some ⟨ps,0,none⟩),.int .i64 id,.int .i64 a,.int .i64 n] w fun r w'=>r= .returned (.int .i64 (lC sz s id a n))∧w'=w:=by
 obtain⟨⟨⟨vl,C⟩,q⟩,hi⟩:=h;have A:=qy id q.b hi.few;have c1:=q.b.c.gC 1;have cl:=q.b.c.lt;unfold lC;cases hx:mW s.L id with
 |none=>
  rw[tY.nohas q.b hx] at A;have HA:=ah (show Calls prog 86 #[.pointer (some ⟨ps,0,none⟩),.int .i64 id] w fun r w'=>r= .returned (.pointer none)∧w'=w from A);clear q hi hx A;go_in
  go_wp2_with fail;refine HA.out.mono ?_;rintro r w1 ⟨rfl,hw1⟩;obtain rfl:=hw1.symm;go_wp2;go_ret;exact⟨rfl,rfl⟩
 |some x=>
  obtain⟨c,hc,rfl,_,hf⟩:=tY.has q.b hx;rw[hf] at A;have HA:=ah (show Calls prog 86 #[.pointer (some ⟨ps,0,none⟩),.int .i64 id] w fun r w'=>r= .returned (.pointer (some ⟨c.2,0,none⟩))∧w'=w from A);clear q hi hx A hc hf;simp only;unfold kW at ha hn;have D:(if a<0∨n<0∨(sz:Int)<a∨(sz:Int)-a<n then 2 else 0:Nat)=(if a<0 then 2 else if n<0 then 2 else if (sz:Int)<a then 2 else if (sz:Int)<n then 2 else if (sz:Int)<a+n then 2 else 0):=by
   repeat' split
   all_goals omega
  rw[D];clear D;by_cases g1:a<0
  ·rw[if_pos g1]
   go_in
   go_wp2_with fail;refine HA.out.mono ?_;rintro r w1 ⟨rfl,hw1⟩;obtain rfl:=hw1.symm;go_wp2;go_ret;exact⟨rfl,rfl⟩
  rw[if_neg g1];by_cases g2:n<0
  ·rw[if_pos g2]
   go_in
   go_wp2_with fail;refine HA.out.mono ?_;rintro r w1 ⟨rfl,hw1⟩;obtain rfl:=hw1.symm;go_wp2;go_ret;exact⟨rfl,rfl⟩
  rw[if_neg g2];by_cases g3:(sz:Int)<a
  ·rw[if_pos g3]
   go_in
   go_wp2_with fail;refine HA.out.mono ?_;rintro r w1 ⟨rfl,hw1⟩;obtain rfl:=hw1.symm;go_wp2;go_ret;exact⟨rfl,rfl⟩
  rw[if_neg g3];by_cases g4:(sz:Int)<n
  ·rw[if_pos g4]
   go_in
   go_wp2_with fail;refine HA.out.mono ?_;rintro r w1 ⟨rfl,hw1⟩;obtain rfl:=hw1.symm;go_wp2;go_ret;exact⟨rfl,rfl⟩
  rw[if_neg g4];have wl:IntKind.i64.wrap (a+n)=a+n:=aY _ om;by_cases g5:(sz:Int)<a+n
  ·rw[if_pos g5]
   go_in
   go_wp2_with fail;refine HA.out.mono ?_;rintro r w1 ⟨rfl,hw1⟩;obtain rfl:=hw1.symm;go_wp2;go_ret;exact⟨rfl,rfl⟩
  rw[if_neg g5];go_in
  go_wp2_with fail;refine HA.out.mono ?_;rintro r w1 ⟨rfl,hw1⟩;obtain rfl:=hw1.symm;go_wp2;go_ret;exact⟨rfl,rfl⟩
end
theorem Ui {sz:Nat} {s:St} {id a:Int} {t:List UInt8} (h:lC sz s id a t.length≠0):nZ sz s id a t=(s,lC sz s id a t.length):=by
 unfold nZ lC at*
 cases hx:mW s.L id with
 |none=>rfl
 |some x=>
  rw[hx] at h;simp only at h ⊢;by_cases c:a<0∨(sz:Int)<a∨(sz:Int)-a<t.length
  ·rw[if_pos c,if_pos om]
  ·rw[if_neg om] at h
   exact absurd rfl h
theorem Pg {b:List UInt8} {t:ByteArray} {a:Nat}:((⟨b.toArray⟩:ByteArray).extract 0 a++t)++(⟨b.toArray⟩:ByteArray).extract (a+t.size) b.length=⟨(r9 b t.data.toList a).toArray⟩:=by
 rw[jP,jP];apply ByteArray.ext;rw[ByteArray.data_append,ByteArray.data_append];apply Array.ext';simp only[Array.toList_append,r9,Nat.sub_zero,aU,bT,Lib.size_eq];congr 2
 rw[dG sI]
section
variable {pd e:Nat} {mn:Int} {O:List (List Int)} {w0:World} {E:vC pd e mn O w0} {X F S:List Nat} {w w':World} {ps pq sz:Nat} {s:St} {id a n:Int} {vl:Value} {C:RBk} {c:Bk×Nat} {x y:Bk} {r:Value} {en:Ending}
theorem Ph (id a:Int) (t:ByteArray) (ha:kW a) (hsz:sz≤65536) (ht:t.size≤65536) (h:(sS (jX E pq) ps pq e sz).S X F s w):
 Calls prog 87 #[.pointer (some ⟨ps,0,none⟩),.int .i64 id,.int .i64 a,.string t] w (EPost (sS (jX E pq) ps pq e sz).S X F (nZ sz s id a t.data.toList).1 w (.int .i64 (nZ sz s id a t.data.toList).2)):=by
 have SAME:=ah (fun r=>xI (r:=r) h);have BE:=ah (CY id a (t.size:Int) ha ⟨om,om⟩ hsz h);have tl:t.data.toList.length=t.size:=by rw[Lib.size_eq]
 have HI:=h.2.write id a t.data.toList;have hcc:lC sz s id a t.size=0∨lC sz s id a t.size=2∨lC sz s id a t.size=4:=uO;by_cases h0:lC sz s id a t.size=0
 ·obtain⟨x,hx,a0,n0,a1,an⟩:=zo h0
  rw[h0] at BE;obtain⟨⟨⟨vl,C⟩,q⟩,hi⟩:=h;have FN:=qy id q.b hi.few;obtain⟨c,hc,rfl,_,hf⟩:=tY.has q.b hx;rw[hf] at FN;have b1:=q.b.b c hc;have x3:=b1.gC 3;have x4:=b1.gC 4;have xf:=b1.f 3 (by simp[Fa]);have xl:=b1.lt;have hlen:=hi.len c.1 (mH hx).1;unfold nZ at HI ⊢;rw[hx] at HI ⊢;simp only at HI ⊢;rw[if_neg (by rw[tl];omega)] at HI ⊢;by_cases h1:1<c.1.h
  ·rw[if_pos h1]
   have d1:decide ((1:Int)<(c.1.h:Int))=true:=dQt om;obtain⟨hh,hhe⟩:=eY c.1.h;obtain⟨pb,hpb⟩:=eY c.2;rw[←hhe] at x4 d1;rw[←hpb] at x4 xl;have HA:=ah (show Calls prog 86 #[.pointer (some ⟨ps,0,none⟩),.int .i64 id] w fun r w'=>r= .returned (.pointer (some ⟨pb,0,none⟩))∧w'=w from hpb▸FN);clear q hi hx hc hf b1 hhe hpb xf FN HI x3 hcc h0 h1;go_in
   go_wp2_with fail;refine BE.out.mono ?_;rintro r w1 ⟨rfl,hw1⟩;obtain rfl:=hw1.symm;go_wp2_with fail;refine HA.out.mono ?_;rintro r w1 ⟨rfl,hw1⟩;obtain rfl:=hw1.symm;go_wp2;go_ret;exact SAME.out _ _ (aL _ _)
  ·rw[if_neg h1] at HI ⊢
   have d1:decide ((1:Int)<(c.1.h:Int))=false:=dQf om;obtain⟨A,hA⟩: ∃A:Nat,a=A:=⟨a.toNat,om⟩;subst hA;have FIN:Hid (∀w',w'=w.drew.setCell ⟨c.2,3,none⟩ (.string ⟨(r9 c.1.b t.data.toList A).toArray⟩)→EPost (sS (jX E pq) ps pq e sz).S X F (s.put (c.1.wr (r9 c.1.b t.data.toList (A:Int).toNat))) w (.int .i64 0) (.returned (.int .i64 0)) w'):=fun w' hw'=>by
    subst hw';have k:Keep [c.2] w (w.drew.setCell ⟨c.2,3,none⟩ (.string ⟨(r9 c.1.b t.data.toList A).toArray⟩)):=((Keep.refl _ _).drew).setCell (p:=⟨c.2,3,none⟩) (.inl sI) _;have b2:=b1.keep ((Keep.refl [] _).drew) sI;exact Pf q hi hc rfl k (fun q t=>by simpa using t) (b2.store 3 (.string ⟨(r9 c.1.b t.data.toList A).toArray⟩) (by simp[Fa])) HI
   obtain⟨BB,hBB⟩: ∃BB:ByteArray,BB=⟨c.1.b.toArray⟩:=⟨_,rfl⟩;have hBs:BB.size=sz:=by rw[hBB,←hlen];simp[ByteArray.size]
   have HW:=Pg (b:=c.1.b) (t:=t) (a:=A);rw[←hBB,hlen] at HW;obtain⟨L1,hL1⟩:=eY (BB.extract 0 A);obtain⟨L2,hL2⟩:=eY (BB.extract (A+t.size) sz);have CU1: ∀W,(Instr.slice 9 (.string BB) none (some (.int .i64 (A:Int))) none).run prog W= .ok (.string L1) W:=fun W=>by
    rw[run_slice_string_h W 9 BB kR .i64 (A:Int) om om,hL1];rfl
   have CU2: ∀W,(Instr.slice 9 (.string BB) (some (.int .i64 ((A:Int)+(t.size:Int)))) none none).run prog W= .ok (.string L2) W:=fun W=>by
    rw[run_slice_string_l W 9 BB kR .i64 ((A:Int)+(t.size:Int)) om om,hL2,hBs];rw[show((A:Int)+(t.size:Int)).toNat=A+t.size by omega]
   have sL1:L1.size=A:=by rw[hL1];simp;omega
   have sL2:L2.size≤sz:=by rw[hL2];simp;omega
   have nA: ¬(9223372036854775807<A+t.size):=om;have nB: ¬(9223372036854775807<A+t.size+L2.size):=om;have nC: ¬(9223372036854775807<(L1++t).size+L2.size):=by rw[ByteArray.size_append];omega
   rw[←hL1,←hL2] at HW;rw[←HW] at FIN;have wl:IntKind.i64.wrap ((A:Int)+(t.size:Int))=(A:Int)+(t.size:Int):=aY _ om;have u3:w.drew.cell? ⟨c.2,3,none⟩=some (.string BB):=by rw[hBB];exact(b1.keep ((Keep.refl [] _).drew) sI).gC 3
   rw[←show(.string BB:Value)= .string ⟨c.1.b.toArray⟩ by rw[hBB]] at x3;obtain⟨hh,hhe⟩:=eY c.1.h;obtain⟨pb,hpb⟩:=eY c.2;rw[←hhe] at x4 d1;rw[←hpb] at x3 x4 xl xf u3;have HA:=ah (show Calls prog 86 #[.pointer (some ⟨ps,0,none⟩),.int .i64 id] w fun r w'=>r= .returned (.pointer (some ⟨pb,0,none⟩))∧w'=w from hpb▸FN);have HPB:=ah hpb;clear q hi hx hc hf b1 hhe hpb FN HI hcc h0 h1 hBB hL1 hL2 HW hlen tl;go_in
   go_wp2_with fail;refine BE.out.mono ?_;rintro r w1 ⟨rfl,hw1⟩;obtain rfl:=hw1.symm;go_wp2_with fail;refine HA.out.mono ?_;rintro r w1 ⟨rfl,hw1⟩;obtain rfl:=hw1.symm;go_wp2_with fail;refine lJ 21 kR kR ?_;simp only[aQ,aV,aP,aU];repeat still_step
   refine wpStill_nil ?_;go_wp2;go_ret;exact FIN.out _ (by rw[←HPB.out];rfl)
 ·rw[Ui (by rw[tl];exact h0),tl]
  have d0:decide ((0:Int)<((lC sz s id a t.size:Nat):Int))=true:=dQt om;obtain⟨cc,hc⟩:=eY (lC sz s id a t.size);have d0':0<cc:=om;rw[←hc] at BE d0 ⊢;clear h HI hcc h0 hc;go_in
  go_wp2_with fail;refine BE.out.mono ?_;rintro r w1 ⟨rfl,hw1⟩;obtain rfl:=hw1.symm;go_wp2;go_ret;exact SAME.out _ _ (aL _ _)
theorem rsids_ok (h:(sS (jX E pq) ps pq e sz).S X F s w):
 Calls prog 42 #[.pointer (some ⟨ps,0,none⟩)] w fun r w'=>∃v,r= .returned v∧w'.ownsRow w.heap.size 3 1 v s.L.length (ints (s.L.map (·.id)))∧Below w.heap.size w w':=by
 have zY:=h.2.few;obtain⟨⟨⟨vl,C⟩,q⟩,hi⟩:=h;have c2:=q.b.c.gC 2;have cl:=q.b.c.lt;have hcl:C.length=s.L.length:=by rw[←q.b.l];simp
 obtain⟨vq,vk,hvl⟩: ∃vq vk,vl= .slice vq s.L.length vk:=l6 q.b.r;have AT:Hid (∀(i:Nat) (c:Bk×Nat),C[i]?=some c→∃g,vq=some ⟨g,0,none⟩∧s.L.length≤vk∧vk≤maxLen∧g<w.heap.size∧w.cell? ⟨g,i,none⟩=some (.pointer (some ⟨c.2,0,none⟩))∧w.cell? ⟨c.2,0,none⟩=some (.int .i64 c.1.id)∧c.2<w.heap.size):=fun i c hi=>by
  obtain⟨g,k,e,h1,h2,h3,h4⟩:=tY.at q.b hi;rw[show vl=_ from hvl] at e;injection e with e1 e2 e3;subst e1 e3;have hb:=q.b.b c (aF hi);exact⟨g,rfl,h1,h2,h3,h4,hb.gC 0,hb.lt⟩
 have HL:Hid (s.L.map (·.id)=C.map (·.1.id)):=by show _=_;rw[←q.b.l,eH];rfl
 obtain⟨n,hn⟩:=eY s.L.length;simp only at c2 hvl;subst hvl;rw[←hn] at c2 hcl AT zY ⊢;rw[HL.out];have HCL:=ah hcl;clear q hi hn hcl HL;go_in
 go_wp2;go_loopw [3,4] (fun lv iv wr=>∃(j:Nat) (q:Option Addr) (k:Nat),j≤n∧iv= .int .i64 j∧lv= .slice q j k∧Hid (wr.ownsRow w.heap.size 3 1 (.slice q j k) j (ints ((C.map (·.1.id)).take j)))∧Hid (Below w.heap.size w wr)) (fun _ iv _=>n-(intOf iv).toNat);case atStart=>exact⟨0,none,0,om,by go_num,rfl,aT _ _ _ _,aL _ _⟩
 case round=>
  obtain⟨j,q,k,hj,rfl,rfl,HO,HB⟩:=hrel;have j0:(0:Int)≤(j:Int):=om;have y2:=(HB.out.cell (p:=⟨ps,2,none⟩) cl).trans c2;have yl:=aC cl HB.out.size;by_cases hjn:j<n
  ·obtain⟨c,ha⟩: ∃c,C[j]?=some c:=⟨C[j]'(by rw[HCL.out];exact hjn),aA _⟩
   obtain⟨g,rfl,e1,e2,e3,e4,e5,e6⟩:=AT.out j c ha;unfold maxLen at e2;have z4:=(HB.out.cell (p:=⟨g,j,none⟩) e3).trans e4;have z5:=(HB.out.cell (p:=⟨c.2,0,none⟩) e6).trans e5;have z3:=aC e3 HB.out.size;have z6:=aC e6 HB.out.size;have j1:(j:Int)<(n:Int):=om;have ET:Hid (ints ((C.map (·.1.id)).take (j+1))=ints ((C.map (·.1.id)).take j)++[.int .i64 c.1.id]):=by
    show _=_;rw[bR,vS,gq,ha];rfl
   clear ha e3 e4 e5 e6;go_wp2_with (first|(at_builtin;refine kP wW (base:=w.heap.size) (v:=.slice q j k) (n:=j) (m:=1) (xs:=ints ((C.map (·.1.id)).take j)) (ms:=[.int .i64 c.1.id]) (p:=some ⟨wr.heap.size,0,none⟩) rf (.tmp 14) (.tmp 25) rf rf rf (jQ HO.out (Keep.of (S:=[]) ((aL _ _).alloc (aI _) _)) (fun s hs=>by cases hs)) rfl (qQ _ _ _) (by intro u hu;simp at hu;subst hu;rfl) om (by have:=HB.out.size;simp;omega) ?_;intro q2 k2 w9 hown2 hg2 ho2));have B8:Below wr.heap.size wr (wr.alloc (.cells #[.int .i64 c.1.id] 3)):=(aL _ _).alloc (aI _) _;have B9:Below w.heap.size w w9:=(HB.out.trans (B8.mono HB.out.size)).grown hg2 (by have:=HB.out.size;simp;omega) (fun r hr=>(HO.out.lt r hr).1);have HB9:=ah B9;have HO9:=ah hown2;clear B8 B9 hg2 ho2 hown2;go_wp2;go_roundw;case rel=>exact⟨j+1,q2,k2,om,by go_num,rfl,by rw[ET.out];exact HO9,HB9⟩
   case measure=>simp[intOf];omega
  ·obtain rfl:j=n:=by omega
   have hd:(C.map (·.1.id)).take j=C.map (·.1.id):=dG (by rw[dD,HCL.out];exact aI _);have HO':=HO.out;rw[hd] at HO';have HO2:=ah HO';clear HO' hd;go_wp2;go_ret;exact⟨_,rfl,HO2.out,HB.out⟩
end
theorem elBy:ElS 87 90 (.pointer none) 1 8:=⟨Tryz.underlying87,kR,rfl,om,om⟩
theorem Fe (bs:List Nat) (b:Nat):DR (bs++[b])=DR bs++[.pointer (some ⟨b,0,none⟩)]:=by simp[DR]
def tL (C:RBk) (id:Int):RBk:=C.filter fun c=>c.1.id !=id
section
variable {B B':Nat} {w w':World} {S:List Nat} {ps pq sz:Nat} {vl vl':Value} {C:RBk} {L:List Bk} {last last':Int} {c:Bk×Nat} {x y:Bk} {id:Int} {b nb:Nat}
theorem J7:(tL C id).map (·.1)=Cw (C.map (·.1)) id:=by
 unfold tL Cw;rw[iF];rfl
theorem tY.del (h:tY B w ps pq sz vl C L last) (hB:B≤w.heap.size) (hn:(L.map (·.id)).Nodup) (hc:c∈C) (hi:c.1.id=id) (k:Keep S w w') (hs: ∀q∈S,q=ps∨q=c.2) (h1:jR w' ps (mg pq sz vl' last))
 (h2:w'.ownsRow w.heap.size 90 1 vl' (tL C id).length (DR ((tL C id).map (·.2)))):tY B w' ps pq sz vl' (tL C id) (Cw L id) last:=by
 obtain⟨n1,n2,n3⟩:=h.ne;have sub:(tL C id).Sublist C:=gF;have hl:(Cw L id).length=(tL C id).length:=by rw[←h.l,←J7,dD]
 refine⟨h1,by rw[hl];exact qB h2 hB,by rw[J7,h.l],fun a ha=> ?_,?_⟩
 ·have hm:=sub.subset ha
  have hne:a.1.id≠id:=by unfold tL at ha;simpa using(bG.1 ha).2
  refine(h.b a hm).keep k fun q=> ?_
  rcases hs _ q with r|r
  ·exact(n2 a hm).1 r
  ·exact hne (by rw[zV n3 hm hc r];exact hi)
 ·unfold Fb
  have far: ∀y∈jS vl',w.heap.size≤y:=fun y hy=>(jZ h2 hy).1
  have lt: ∀a∈tL C id,a.2<w.heap.size:=fun a ha=>(h.b a (sub.subset ha)).lt
  rw[aS,aD,not_or,bF];refine⟨⟨fun q=> ?_,fun q=> ?_⟩,?_,(n3.sublist (sub.map _)),fun y hy z hz e=> ?_⟩
  ·have:=far ps q;have:=h.c.lt;omega
  ·obtain⟨a,ha,e⟩:=bC.1 q
   exact(n2 a (sub.subset ha)).1 e
  ·unfold jS;cases vl'.ownBlock<;>simp
  ·obtain⟨a,ha,r⟩:=bC.1 hz
   have:=far y hy;have:=lt a ha;omega
theorem tY.add (h:tY B w ps pq sz vl C L last) (hB:B≤w.heap.size) (k:Keep (ps::jS vl) w w') (h1:jR w' ps (mg pq sz vl' last')) (h2:w'.ownsRow B 90 1 vl' (L.length+1) (DR (C.map (·.2)++[nb])))
 (hz: ∀y∈jS vl',y∈jS vl∨(w.heap.size≤y∧y≠nb)) (hnb:w.heap.size≤nb) (h3:jR w' nb (Fa x)):tY B w' ps pq sz vl' (C++[(x,nb)]) (L++[x]) last':=by
 obtain⟨n1,n2,n3⟩:=h.ne;have lt: ∀y∈Fb ps vl C,y<w.heap.size:=fun y hy=>by
  rcases mh.1 hy with r|r|⟨c,hc,r⟩
  ·subst r;exact h.c.lt
  ·exact(jZ h.r r).2
  ·subst r;exact(h.b c hc).lt
 refine⟨h1,by rw[aW,dz];exact h2,by rw[dz,h.l];rfl,fun a ha=> ?_,?_⟩
 ·rcases aD.1 ha with q|q
  ·refine(h.b a q).keep k fun r=> ?_
   rcases aB.1 r with r|r
   ·exact(n2 a q).1 r
   ·exact(n2 a q).2 r
  ·simp at q;subst q;exact h3
 ·unfold Fb
  rw[aS,aD,not_or,bF,dz];refine⟨⟨fun q=> ?_,fun q=> ?_⟩,?_,?_,fun y hy z hz' e=> ?_⟩
  ·rcases hz ps q with r|⟨r,_⟩
   ·exact n1 r
   ·have:=h.c.lt;omega
  ·rcases aD.1 q with r|r
   ·obtain⟨a,ha,e⟩:=bC.1 r;exact(n2 a ha).1 e
   ·simp at r;have:=h.c.lt;omega
  ·unfold jS;cases vl'.ownBlock<;>simp
  ·rw[bF]
   refine⟨n3,sI,fun y hy z hz' e=> ?_⟩;obtain⟨a,ha,r⟩:=bC.1 hy;have:=(h.b a ha).lt;simp at hz';omega
  ·subst e
   rcases aD.1 hz' with r|r
   ·obtain⟨a,ha,e⟩:=bC.1 r
    rcases hz y hy with u|⟨u,_⟩
    ·exact(n2 a ha).2 (e▸u)
    ·have:=(h.b a ha).lt;omega
   ·simp at r
    rcases hz y hy with u|⟨_,u⟩
    ·have:=(jZ h.r u).2;omega
    ·exact u r
end
section
variable {pd e:Nat} {mn:Int} {O:List (List Int)} {w0:World} {E:vC pd e mn O w0} {X F S:List Nat} {w w':World} {ps pq sz:Nat} {s:St} {id a n:Int} {vl:Value} {C:RBk} {c:Bk×Nat} {x y:Bk} {r:Value} {en:Ending}
theorem Uj (k id:Int) (h:(sS (jX E pq) ps pq e sz).S X F s w):
 Calls prog 84 #[.pointer (some ⟨ps,0,none⟩),.int .i64 k,.int .i64 id] w (EPost (sS (jX E pq) ps pq e sz).S X F (sP e s k id).1 w (.int .i64 (sP e s k id).2)):=by
 have SAME:=ah (fun r=>xI (r:=r) h);have HI:=h.2.drop k id;have zY:=h.2.few;obtain⟨⟨⟨vl,C⟩,q⟩,hi⟩:=h;have A:=qy id q.b hi.few;revert HI;unfold sP;cases hx:mW s.L id with
 |none=>
  intro _;rw[tY.nohas q.b hx] at A;have HA:=ah (show Calls prog 86 #[.pointer (some ⟨ps,0,none⟩),.int .i64 id] w fun r w'=>r= .returned (.pointer none)∧w'=w from A);clear q hi hx A zY;go_in
  go_wp2_with fail;refine HA.out.mono ?_;rintro r w1 ⟨rfl,hw1⟩;obtain rfl:=hw1.symm;go_wp2;go_ret;exact SAME.out _ _ (aL _ _)
 |some x=>
  obtain⟨c,hc,rfl,hci,hf⟩:=tY.has q.b hx;rw[hf] at A;have hxm:=mH hx;have c0:=q.b.c.gC 0;have cl:=q.b.c.lt;obtain⟨⟨vr,vt,vw,vg,tp⟩,hip⟩:=(show rO E X _ pq s.p w from q.s);have p0:=tp.b.c.gC 0;have pl:=tp.b.c.lt;have WK:=ah (E.work k tp.s);have b1:=q.b.b c hc;have x4:=b1.gC 4;have xf:=b1.f 4 (by simp[Fa]);have xl:=b1.lt;simp only;obtain⟨pb,hpb⟩:=eY c.2;have HA:=ah (show Calls prog 86 #[.pointer (some ⟨ps,0,none⟩),.int .i64 id] w fun r w'=>r= .returned (.pointer (some ⟨pb,0,none⟩))∧w'=w from hpb▸A);by_cases hw:mG s.p k=false
  ·rw[if_pos hw]
   intro _;unfold mG at hw;rw[hw] at WK;clear q hi hx hxm hc hf hpb hw zY A tp hip b1 x4 xf hci;go_in
   go_wp2_with fail;refine HA.out.mono ?_;rintro r w1 ⟨rfl,hw1⟩;obtain rfl:=hw1.symm;go_wp2_with fail;refine WK.out.mono ?_;rintro r w1 ⟨rfl,hw1⟩;obtain rfl:=hw1.symm;go_wp2;go_ret;exact SAME.out _ _ (aL _ _)
  rw[if_neg hw];have hw1:mG s.p k=true:=by simpa using hw
  unfold mG at hw1;rw[hw1] at WK;have hh:=hi.hs c.1 hxm.1;obtain⟨H,hH⟩: ∃H:Int,H=(c.1.h:Int)-1:=⟨_,rfl⟩;have wl:IntKind.i64.wrap ((c.1.h:Int)-1)=H:=by rw[hH];exact aY _ om
  have kk:Keep [c.2] w (w.setCell ⟨c.2,4,none⟩ (.int .i64 H)):=(Keep.refl _ _).setCell (p:=⟨c.2,4,none⟩) (.inl sI) _;have B1:=b1.store 4 (.int .i64 H) (by simp[Fa]);by_cases h1:c.1.h=1
  ·rw[if_pos h1]
   intro HI;have H0:H=0:=om;subst H0;have ne:=q.b.ne;have nps:=(ne.2.1 c hc).1;have nvl:=(ne.2.1 c hc).2;obtain⟨w1,hw1'⟩: ∃w1,w.setCell ⟨c.2,4,none⟩ (.int .i64 0)=w1:=⟨_,rfl⟩;rw[hw1'] at kk B1;have z1:=kk.size;have C1:=q.b.c.keep kk (by simpa using nps.symm);have R1:=jQ q.b.r kk (fun s t=>by simp at t;subst t;exact nvl);obtain⟨vq,vk,hvl⟩: ∃vq vk,vl= .slice vq s.L.length vk:=l6 q.b.r;have hcl:C.length=s.L.length:=by rw[←q.b.l];simp
   have AT:Hid (∀(i:Nat) (a:Bk×Nat),C[i]?=some a→∃g,vq=some ⟨g,0,none⟩∧s.L.length≤vk∧vk≤maxLen∧g<w1.heap.size∧w1.cell? ⟨g,i,none⟩=some (.pointer (some ⟨a.2,0,none⟩))∧w1.cell? ⟨a.2,0,none⟩=some (.int .i64 a.1.id)∧a.2<w1.heap.size):=fun i a hi=>by
    obtain⟨g,k',e,h1,h2,h3,h4⟩:=tY.at q.b hi;rw[show vl=_ from hvl] at e;injection e with e1 e2 e3;subst e1 e3;have ha:=aF hi;have hb:=q.b.b a ha;have ng:g∉[c.2]:=by
     simp only[bL];rintro rfl;exact nvl (by rw[show vl=_ from hvl];simp[jS,Value.ownBlock])
    refine⟨g,rfl,h1,h2,aC h3 z1,?_,?_,aC hb.lt z1⟩
    ·rw[←h4];exact kk.cell h3 ng
    ·by_cases t:a.2=c.2
     ·rw[zV ne.2.2 ha hc t]
      exact B1.gC 0
     ·exact(hb.keep kk (by simpa using t)).gC 0
   have HQ:=ah q;have HNE:=ah nps;have HC:=ah hc;have HCI:=ah hci;have HND:=ah hi.ndI;have HII:=ah HI;have HKK:=ah kk;have HSZ:Hid (w1.heap.size=w.heap.size):=by show _=_;rw[←hw1'];simp
   have HC1:=ah C1;have HB1:=ah B1;have y0:=C1.gC 0;have y2:=C1.gC 2;have yl:=C1.lt;have yf:=C1.f 2 (by simp[mg]);have u4:=B1.gC 4;have ul:=B1.lt;have hx1:c.1.h=1:=h1;rw[hx1] at x4 wl;obtain⟨n,hn⟩:=eY s.L.length;simp only at y2 hvl;rw[hvl] at y2;have HVL:=ah hvl;rw[←hn] at y2 AT hcl zY;have HCL:=ah hcl;rw[←hpb] at x4 xl xf hw1' u4 ul;have HPB:=ah hpb;have nP:ps≠pb:=by rw[hpb];exact nps.symm
   clear q hi hx hxm hc hf hpb hw hw1 hci ne nvl C1 R1 hvl hcl B1 tp hip b1 h1 HI A hn nps hh hH kk hx1;go_in
   go_wp2_with fail;refine HA.out.mono ?_;rintro r w1' ⟨rfl,hw1⟩;obtain rfl:=hw1.symm;go_wp2_with fail;refine WK.out.mono ?_;rintro r w1' ⟨rfl,hw1⟩;obtain rfl:=hw1.symm;go_wp2_with fail;go_loopw [9,10] (fun lv iv wr=>∃(j m:Nat) (q:Option Addr) (k':Nat),j≤n∧m≤j∧iv= .int .i64 j∧lv= .slice q m k'∧Hid (wr.ownsRow w.heap.size 90 1 (.slice q m k') m (DR ((tL (C.take j) id).map (·.2))))∧Hid (m=(tL (C.take j) id).length)∧Hid (Below w1.heap.size w1 wr)) (fun _ iv _=>n-(intOf iv).toNat);case atStart=>exact⟨0,0,none,0,om,om,by go_num,rfl,aT _ _ _ _,(by show _=_;simp[tL]),aL _ _⟩
   case round=>
    obtain⟨j,m,q,k',hj,hm,rfl,rfl,HO,HM,HB⟩:=hrel;have j0:(0:Int)≤(j:Int):=om;have v2:=(HB.out.cell (p:=⟨ps,2,none⟩) yl).trans y2;have vlt:=aC yl HB.out.size;by_cases hjn:j<n
    ·obtain⟨a,ha⟩: ∃a,C[j]?=some a:=⟨C[j]'(by rw[HCL.out];exact hjn),aA _⟩
     obtain⟨g,rfl,e1,e2,e3,e4,e5,e6⟩:=AT.out j a ha;unfold maxLen at e2;have z4:=(HB.out.cell (p:=⟨g,j,none⟩) e3).trans e4;have z5:=(HB.out.cell (p:=⟨a.2,0,none⟩) e6).trans e5;have z3:=aC e3 HB.out.size;have z6:=aC e6 HB.out.size;have j1:(j:Int)<(n:Int):=om;by_cases hax:a.1.id=id
     ·have ET:Hid (tL (C.take (j+1)) id=tL (C.take j) id):=by
       show _=_;rw[bR,ha];unfold tL;rw[gL];simp[hax]
      have hax':(a.1.id==id)=true:=by simpa using hax
      clear ha e3 e4 e5 e6;go_wp2;go_roundw;case rel=>exact⟨j+1,m,q,k',om,om,by go_num,rfl,by rw[ET.out];exact HO,by rw[ET.out];exact HM,HB⟩
      case measure=>simp[intOf];omega
     ·have ET:Hid (tL (C.take (j+1)) id=tL (C.take j) id++[a]):=by
       show _=_;rw[bR,ha];unfold tL;rw[gL];simp[hax]
      have hax':(a.1.id==id)=false:=by simpa using hax
      clear ha e3 e4 e5 e6 hax;go_wp2_with (first|(at_builtin;refine kP elBy (base:=w.heap.size) (v:=.slice q m k') (n:=m) (m:=1) (xs:=DR ((tL (C.take j) id).map (·.2))) (ms:=[.pointer (some ⟨a.2,0,none⟩)]) (p:=some ⟨wr.heap.size,0,none⟩) rf (.tmp 60) (.tmp 68) rf rf rf (jQ HO.out (Keep.of (S:=[]) ((aL _ _).alloc (aI _) _)) (fun s hs=>by cases hs)) rfl (qQ _ _ _) (by intro u hu;simp at hu;subst hu;rfl) om (by have:=HB.out.size;have:=HKK.out.size;simp;omega) ?_;intro q2 k2 w9 hown2 hg2 ho2));have B8:Below wr.heap.size wr (wr.alloc (.cells #[.pointer (some ⟨a.2,0,none⟩)] 90)):=(aL _ _).alloc (aI _) _;have B9:Below w1.heap.size w1 w9:=(HB.out.trans (B8.mono HB.out.size)).grown hg2 (by have:=HB.out.size;simp;omega) (fun r hr=>by have:=(HO.out.lt r hr).1;have:=HSZ.out;omega);have HB9:=ah B9;have HO9:=ah hown2;clear B8 B9 hg2 ho2 hown2;go_wp2;go_roundw;case rel=>exact⟨j+1,m+1,q2,k2,om,om,by go_num,rfl,by rw[ET.out,dz];exact(Fe _ _).symm▸HO9,by show _=_;rw[ET.out,aW,←HM.out];rfl,HB9⟩
      case measure=>simp[intOf];omega
    ·obtain rfl:j=n:=by omega
     have hd:C.take j=C:=dG (by rw[HCL.out];exact aI _);have HO':=HO.out;have HM':=HM.out;rw[hd] at HO' HM';have far: ∀y∈jS (.slice q m k'),w.heap.size≤y:=fun y hy=>(jZ HO' hy).1
     have q0:=HQ.out;have k12:Keep [c.2] w wr:=HKK.out.step HB.out;obtain⟨w3,hw3⟩:=eX (wr.setCell ⟨ps,2,none⟩ (.slice q m k'));have k23:Keep [ps] wr w3:=by rw[←hw3];exact(Keep.refl _ _).setCell (p:=⟨ps,2,none⟩) (.inl sI) _
     have k13:Keep [ps,c.2] w w3:=(k12.mono (fun q t=>by simp at t;subst t;simp)).then (k23.mono (fun q t=>by simp at t;subst t;simp));have C3:jR w3 ps (mg pq sz (.slice q m k') s.last):=by rw[←hw3];exact(HC1.out.go HB.out).store 2 (.slice q m k') (by simp[mg])
     have O3:=jQ HO' k23 (fun s t r=>by simp at t;subst t;have:=far _ r;have:=q0.b.c.lt;omega);have SB:=tY.del (id:=id) (vl':=.slice q m k') q0.b (jX E pq |>.bel q0.s).size HND.out HC.out HCI.out k13 (fun q t=>by simpa using t) C3 (by rw[←HM'];exact O3);have hk:Keep ((rJ (jX E pq) ps pq sz).ws (vl,C)++[]) w w3:=k13.mono fun q t=>by
      rw[dw];simp at t;rcases t with rfl|rfl
      ·exact mh.2 (.inl rfl)
      ·exact mh.2 (.inr (.inr ⟨c,HC.out,rfl⟩))
     have hb':(rJ (jX E pq) ps pq sz).B (.slice q m k',tL C id) ⟨s.p,Cw s.L id,s.last⟩ w3:=SB;have ws': ∀{y:Nat},y∈Fb ps (.slice q m k') (tL C id)→y∈Fb ps vl C∨(w.heap.size≤y∧y<w3.heap.size):=fun {y} hy=>by
      rcases mh.1 hy with r|r|⟨a,ha,r⟩
      ·exact .inl (mh.2 (.inl r))
      ·exact .inr ⟨far y r,aC (jZ HO' r).2 k23.size⟩
      ·exact .inl (mh.2 (.inr (.inr ⟨a,(bG.1 ha).1,r⟩)))
     obtain⟨X',R2⟩:=Ov.Run.put (V:=rJ (jX E pq) ps pq sz) (m:=(vl,C)) (m':=(.slice q m k',tL C id)) (t':=⟨s.p,Cw s.L id,s.last⟩) (L':=[]) (Ov.Run.start q0) hk (fun y t=>(ws' t).elim .inl fun u=>.inr (.inr u.1)) (fun y t=>(ws' t).elim (fun u=>aC (q0.lim y u).2 k13.size) (·.2)) (fun q t=>by cases t) hb' rfl;have R3:=R2.go (show Below w3.heap.size w3 w3.drew from(aL _ _).drew);have GV:=zR (E:=E) (pq:=pq) k c.1.o (show rO E X' _ pq s.p w3.drew from R3.at_.s);have fin: ∀r en w4,EPost (jX E pq).S X' ((rJ (jX E pq) ps pq sz).ws (.slice q m k',tL C id)++([]++F)) (lZ e s.p k c.1.o).1 w3.drew r en w4→en= .returned r∧EPost (sS (jX E pq) ps pq e sz).S X F ⟨(lZ e s.p k c.1.o).1,Cw s.L id,s.last⟩ w (.int .i64 0) (.returned (.int .i64 0)) w4:=fun r en w4 hp=>by
      obtain⟨h1,X4,R4,_⟩:=R3.dep hp;exact⟨h1,FEnv.sV R4.fin HII.out⟩
     have FIN:=ah fin;have GVH:=ah (show Calls prog 16 #[.pointer (some ⟨pq,0,none⟩),.int .i64 k,.agg #[.int .i64 c.1.o.1,.int .i64 c.1.o.2]] w3.drew (EPost (jX E pq).S X' ((rJ (jX E pq) ps pq sz).ws (.slice q m k',tL C id)++([]++F)) (lZ e s.p k c.1.o).1 w3.drew (.int .i64 (lZ e s.p k c.1.o).2)) from GV);have B3:=(HB1.out.go HB.out).keep k23 (by rw[←HPB.out];simp;exact fun r=>nP r.symm);have u1:=B3.gC 1;have u2:=B3.gC 2;have u3:=B3.lt;rw[←HPB.out] at u1 u2 u3;have t0:=C3.gC 0;have tl:=C3.lt;have vf:=(HC1.out.go HB.out).f 2 (by simp[mg]);clear HO' HM' hd far q0 k12 k23 k13 C3 O3 SB hk hb' ws' R2 R3 GV fin B3;go_wp2_with fail;refine lJ 9 kR kR ?_;simp only[aQ,aV,aP,aU];repeat still_step
     refine wpStill_nil ?_;go_wp2_with fail;refine GVH.out.mono ?_;rintro r w4 hp;obtain⟨rfl,FF⟩:=FIN.out _ _ _ hp;have HF:=ah FF;clear hp FF;go_wp2;go_ret;exact HF.out
  ·rw[if_neg h1]
   intro HI;have d0:decide ((0:Int)<H)=true:=dQt om;have fin: ∀w',w'=w.setCell ⟨c.2,4,none⟩ (.int .i64 H)→EPost (sS (jX E pq) ps pq e sz).S X F (s.put (c.1.hold (c.1.h-1))) w (.int .i64 0) (.returned (.int .i64 0)) w':=fun w' hw'=>by
    subst hw';refine Pf q hi hc rfl kk (fun q t=>by simpa using t) ?_ HI;have:Fa (c.1.hold (c.1.h-1))=(Fa c.1).set 4 (.int .i64 H):=by
     have e1:((c.1.h-1:Nat):Int)=H:=om;show[_,_,_,_,Value.int .i64 ((c.1.h-1:Nat):Int)]=_;rw[e1];rfl
    rw[this];exact B1
   have FIN:=ah fin;have y4:=B1.gC 4;have yl:=B1.lt;obtain⟨hn',hne⟩: ∃hh,hh=c.1.h:=⟨_,rfl⟩;rw[←hne] at x4 wl;rw[←hpb] at x4 xl xf FIN y4 yl;obtain⟨W1,hW1⟩:=eX (w.setCell ⟨pb,4,none⟩ (.int .i64 H));rw[hW1] at y4 yl FIN;clear q hi hx hxm hc hf hpb hw hw1 b1 hh hH kk B1 h1 HI fin hne SAME A tp hip hci zY;go_in
   go_wp2_with fail;refine HA.out.mono ?_;rintro r w1 ⟨rfl,hw1⟩;obtain rfl:=hw1.symm;go_wp2_with fail;refine WK.out.mono ?_;rintro r w1 ⟨rfl,hw1⟩;obtain rfl:=hw1.symm;go_wp2;go_ret;exact FIN.out _ rfl
end
