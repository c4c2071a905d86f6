/- Lemmas. -/
import Derived.Test.YtehhldljdakgeaaGreatDoorQb01
import Derived.Test.YtehhldljdakgeaaGreatDoorQb21
set_option linter.unusedSimpArgs false
set_option linter.unusedVariables false
set_option maxHeartbeats 16000000
set_option maxRecDepth 100000
namespace Go.Proofs.YtehhldljdakgeaaGreatDoor
open Go.RowKit Go.Maps Go.Proofs.Tryz
attribute [local go_sem ↓] aJ aK
section
open Go
section
variable {P:Program} {md:Region.Mode} {l:List Oper} {n:Nat}
def Ur (md:Region.Mode) (l:List Oper) (n:Nat):Bool:=
 decide (n<l.length)&&Region.sinkB md l.toArray n&&Region.chainB md l.toArray n&&
 ((List.range n).all fun j=>match l[j]? with
   |some o=>(o.after.all fun e=>decide (e.on<j)||(decide (e.on<n)&& !Region.binds md e))&&(match o.guard with|some (g,_)=>decide (g<n)|none=>true)
   |none=>false)&&
 Region.seqB md l.toArray (l.length-n) n (List.replicate n true++List.replicate (l.length-n) false).toArray
theorem EI {listed L:Array Bool} (hB:Ur md l n=true) (h:tu l n listed L) {i:Nat} (hi:i<n):
 i∈Region.ready md l.toArray L↔i∈Region.ready md (l.take n).toArray listed:=by
 simp only[Ur,bV,decide_eq_true_eq] at hB;obtain⟨⟨⟨⟨hn,_⟩,_⟩,hA⟩,_⟩:=hB;have hAi:=eF.1 hA i (fM.2 hi);rw[mem_ready,mem_ready,h.getD hi true];have e1:(l.take n).toArray[i]?=l.toArray[i]?:=by simp[hi]
 rw[e1];refine and_congr_right fun _=>exists_congr fun o=>and_congr_right fun ho=> ?_
 have ho':l[i]?=some o:=by simpa using ho
 rw[ho'] at hAi;simp only[bV] at hAi;have hE:=fJ.1 hAi.1;exact forall_congr' fun e=>forall_congr' fun he=>forall_congr' fun _=>by
  rw[h.getD (by
   have:=hE e he;simp at this;omega)]
theorem Kc {o:Oper} {tmps:Array Value} (hB:Ur md l n=true) {i:Nat} (hi:i<n) (ho:l[i]?=some o):
 Region.wanted o (yielded (l.take n).toArray tmps)=Region.wanted o (yielded l.toArray tmps):=by
 simp only[Ur,bV,decide_eq_true_eq] at hB;obtain⟨⟨⟨⟨hn,_⟩,_⟩,hA⟩,_⟩:=hB;have hAi:=eF.1 hA i (fM.2 hi);rw[ho] at hAi;simp only[bV] at hAi;unfold Region.wanted;cases hg:o.guard with
 |none=>rfl
 |some p=>
  obtain⟨g,b⟩:=p;have hgn:g<n:=by
   have:=hAi.2;rw[hg] at this;simpa using this
  have e1:yielded (l.take n).toArray tmps g=yielded l.toArray tmps g:=by unfold yielded;simp[hgn]
  simp only[e1]
theorem cutf_all {listed L:Array Bool} (hB:Ur md l n=true) (h:tu l n listed L) (he:Region.ready md (l.take n).toArray listed=[]): ∀i,i<n→listed.getD i false=true:=by
 simp only[Ur,bV,decide_eq_true_eq] at hB;obtain⟨⟨⟨⟨hn,_⟩,_⟩,hA⟩,_⟩:=hB;intro i;induction i using Nat.strongRecOn with
 |_ i ih=>
  intro hi;cases hl:listed.getD i false with
  |true=>rfl
  |false=>
   have hAi:=eF.1 hA i (fM.2 hi);have hil:i<l.length:=om;rw[aA hil] at hAi;simp only[bV] at hAi;have hE:=fJ.1 hAi.1;have:i∈Region.ready md (l.take n).toArray listed:=mem_ready.2 ⟨getD_in (by rw[h.s1];exact hi) hl,l[i],by simp[hi,hil],fun e he hb=>by
    have:=hE e he;simp[hb] at this;exact ih e.on this om⟩
   rw[he] at this;cases this
theorem Wy {Q:Exit→Act→World→Prop} {listed L:Array Bool} {a:Act} {w:World} (hB:Ur md l n=true) (h:tu l n listed L) (he:Region.ready md (l.take n).toArray listed=[])
 (hQ:wpList P l.toArray Q (l.drop n) a w):wpAny P md l.toArray Q (l.drop n).length L a w:=by
 have ha:=cutf_all hB h he;simp only[Ur,bV,decide_eq_true_eq] at hB;obtain⟨⟨⟨⟨hn,_⟩,_⟩,_⟩,hseq⟩:=hB;have e:=Qb h hn ha;subst e;exact wpAny_of_seq (l.drop n) n _ a w (fun j=>by simp[cO]) (by simpa using hseq) hQ
theorem cutf_any {Q:Exit→Act→World→Prop} (hB:Ur md l n=true):
 ∀(f:Nat) (listed L:Array Bool) (a:Act) (w:World),tu l n listed L→HeadInv md l.toArray n L→
  wpAny P md (l.take n).toArray (oz P l n Q) f listed a w→wpAny P md l.toArray Q ((l.drop n).length+f) L a w:=by
 have hB':=hB;simp only[Ur,bV,decide_eq_true_eq] at hB';obtain⟨⟨⟨⟨hn,hs⟩,hc⟩,hA⟩,_⟩:=hB';intro f;induction f with
 |zero=>
  intro listed L a w hr inv h;exact Wy hB hr h.1 h.2
 |succ f ih=>
  intro listed L a w hr inv h;by_cases he:Region.ready md (l.take n).toArray listed=[]
  ·exact xP _ (f+1) _ _ _ (Wy hB hr he (h.1 he))
  ·obtain⟨i0,hi0⟩:=List.exists_mem_of_ne_nil _ he
   have hi0n:i0<n:=by
    obtain⟨_,o,ho,_⟩:=mem_ready.1 hi0;have:=(iR.1 ho).1;simp at this;omega
   have hun:L.getD i0 true=false:=by rw[hr.getD hi0n];exact(mem_ready.1 hi0).1
   have hin: ∀i∈Region.ready md l.toArray L,i<n:=fun i hi=>by
    rcases dU i n with q|q
    ·exact q
    ·exact absurd hi (tail_waits hs hc (by simpa using hn) inv _ i0 rfl hi0n hun i q)
   refine⟨fun h0=> ?_,fun i hi=> ?_⟩
   ·have:=(EI hB hr hi0n).2 hi0
    rw[h0] at this;cases this
   ·have hin':=hin i hi
    have h1:=h.2 i ((EI hB hr hin').1 hi);have hil:i<l.length:=om;have e1:(l.take n).toArray[i]?=some l[i]:=by simp[hin',hil]
    have e2:l.toArray[i]?=some l[i]:=by simp[hil]
    have hst: ∀a' w',wpAny P md (l.take n).toArray (oz P l n Q) f (listed.setIfInBounds i true) a' w'→wpAny P md l.toArray Q ((l.drop n).length+f) (L.setIfInBounds i true) a' w':=
     fun a' w' h'=>ih _ _ a' w' (hr.set hin') (inv.set hi hin') h'
    unfold wpOp at h1 ⊢;simp only[e1] at h1;simp only[e2];rw[Kc hB hin' (aA hil)] at h1;split
    ·rename_i hw
     simp only[hw,if_true] at h1;rcases h1 with h1|h1
     ·exact .inl (Oper.wp_mono hst (Vm h1))
     ·exact .inr ⟨h1.1,A9 h1.2⟩
    ·rename_i hw
     simp only[hw] at h1;exact hst _ _ h1
theorem Dp {S:World→Prop} {id:Nat} {Q:Exit→Act→World→Prop} {a:Act} {w:World} (n:Nat) (L:Array Bool) (hL:L=(List.replicate n false).toArray) (hm:P.follows .mixedOrders=true) (hB:Ur .any l n=true) (hS:S w.drew)
 (h:S w.drew→wpAnyH P .any (l.take n).toArray (oz P l n Q) S n L a w.drew):(Code.region id l.toArray true).wp P Q a w:=by
 have hB':=hB;simp only[Ur,bV,decide_eq_true_eq] at hB';obtain⟨⟨⟨⟨hn,hs⟩,hc⟩,hA⟩,_⟩:=hB';refine wp_region_any hm ?_;have hsz:(l.take n).toArray.size=n:=by simp;omega
 have h0:=h hS;rw[hL] at h0;have h1:=wpAny_of_held _ _ _ _ h0;have inv0:HeadInv .any l.toArray n (Array.replicate l.toArray.size false):=
  ⟨sI,fun j oj _ hl=>(by rw[getD_replicate_false] at hl;cases hl),fun t _ ht=>getD_in (by simpa using ht) (getD_replicate_false _ _)⟩
 have rel0:tu l n (List.replicate n false).toArray (Array.replicate l.toArray.size false):=
  ⟨sI,sI,fun i hi=>by
    have h1:i<l.length:=om;simp[h1,hi,Array.getElem?_replicate],fun t _ ht=>getD_in (by simpa using ht) (getD_replicate_false _ _)⟩
 have h2:=cutf_any (Q:=Q) hB _ _ _ a w.drew rel0 inv0 h1;have e:(l.drop n).length+n=l.toArray.size:=by simp;omega
 rw[e] at h2;exact h2
end
end
theorem Wz (b:Addr) (w:World):
 Calls prog 59 #[.nilIface,.iface 336 (.pointer (some b))] w fun e w'=>e= .returned (.bool false)∧w=w':=by
 have heq:=run_eql_iface_nil_left (P:=prog) (w:=w) 336 (.pointer (some b)) jw;go_in
 go_wp2;go_ret;exact⟨rfl,rfl⟩
section
variable {pd pc pz e:Nat} {mn:Int} {O:List (List Int)} {ev:Nat→Addr} {w0:World} {E:sG pd pc pz e mn O ev w0} {X F:List Nat} {w:World} {pp:Nat} {p:Po}
theorem PoX.err (h:PoX E X F pp p w):qC w0.heap.size ev w:=E.err.go h.bel
theorem PoX.ord (h:PoX E X F pp p w):rM O p.d.c.L.length:=by
 obtain⟨⟨bt,bg,vr,vw,q⟩,i⟩:=h;exact E.ord q.s
theorem qC.at {B:Nat} {ev:Nat→Addr} {w:World} (h:qC B ev w) (i:Nat) (h1:1≤i) (h2:i≤10):w.cell? ⟨errG i,0,none⟩=some (kM ev i)∧errG i<w.heap.size:=⟨h.cell i h1 h2,aC (h.glob i h1 h2) h.size⟩
def zO:Obj:=.cells #[.int .i64 0,.int .i64 0] 40
theorem nX.took (hO:rM O p.d.c.L.length) (h:nX e p) (k v:Int):nX e (p.atD (takeD mn O e p.d k v false).1):=by
 obtain⟨l,hm,hs⟩:=h.mo;have hI:=sw (mn:=mn) (O:=O) (k:=k) (v:=v) (u:=false) hO h.inv;rcases MoI.take (mn:=mn) (O:=O) hO h.inv hm k v false with⟨_,_,h2⟩|⟨_,h2⟩
 ·exact h.atD hI h2 fun x hx=>av _ (hs x hx)
 ·exact h.atD hI h2 hs
theorem ptake_A (k v:Int) (h:PoX E X F pp p w) (hc:p.cl=true):
 Calls prog 13 #[.pointer (some ⟨pp,0,none⟩),.int .i64 k,.int .i64 v] w (EPost (kQ E pp).S X F p w (.tuple #[.agg #[.int .i64 0,.int .i64 0],kM ev 4])):=by
 have FIN:Hid (∀W,Below w.heap.size w W→EPost (kQ E pp).S X F p w (.tuple #[.agg #[.int .i64 0,.int .i64 0],kM ev 4]) (.returned (.tuple #[.agg #[.int .i64 0,.int .i64 0],kM ev 4])) W):=fun W b=>⟨rfl,nN.same h b⟩
 have b1:Below w.heap.size w (w.alloc zO):=by unfold zO;exact jY
 have HE:=h.err.go b1;obtain⟨⟨bt,bg,vr,vw,q⟩,hi⟩:=h.go b1;have c7:=q.b.c.gC 7;have cl:=q.b.c.lt;rw[hc] at c7;have gs:(w.alloc zO).cell? ⟨2,0,none⟩=some (kM ev 4):=HE.cell 4 (by decide) (by decide);have gl:2<(w.alloc zO).heap.size:=aC (HE.glob 4 (by decide) (by decide)) HE.size;have gn:2<w.heap.size:=by have:=HE.glob 4 (by decide) (by decide);have h2:=h.bel.size;exact aC this h2
 have LB:=ah (show jR (w.alloc zO) w.heap.size [.int .i64 0,.int .i64 0] from jR.mk_ w [.int .i64 0,.int .i64 0] 40 rfl);have m0:=LB.out.gC 0;have m1:=LB.out.gC 1;have f0:=LB.out.f 0 sI;have f1:=LB.out.f 1 sI;have ml:=LB.out.lt;have ne7: ¬(w.heap.size=2):=om;have ne7': ¬(2=w.heap.size):=om;have LF:=ah (LB.out.lq (.int .i64 0) (.int .i64 0));obtain⟨W1,hW1⟩:=eX (w.alloc zO);rw[hW1] at c7 cl gs gl m0 m1 f0 f1 ml LF b1;have HB:=ah b1;clear q hi h HE LB hc b1;go_in
 unfold zO at hW1;go_wp2;clear hW1;go_region
 all_goals go_wp2
 all_goals
  have e0:=LF.out.gC 0;have e1:=LF.out.gC 1;exact bodyPost_ret (v:=.tuple #[.agg #[.int .i64 0,.int .i64 0],kM ev 4]) (by simp[e0,e1,results,ig,go_sem]) rfl (FIN.out _ (HB.out.trans jY))
theorem ptake_B (k v:Int) (h:PoX E X F pp p w) (hc:p.cl=false) (hr:xR p k v=2):
 Calls prog 13 #[.pointer (some ⟨pp,0,none⟩),.int .i64 k,.int .i64 v] w (EPost (kQ E pp).S X F p w (.tuple #[.agg #[.int .i64 0,.int .i64 0],kM ev 2])):=by
 have e2:kM ev 2= .iface 336 (.pointer (some (ev 2))):=rfl;rw[e2];have FIN:Hid (∀W,Below w.heap.size w W→EPost (kQ E pp).S X F p w (.tuple #[.agg #[.int .i64 0,.int .i64 0],.iface 336 (.pointer (some (ev 2)))]) (.returned (.tuple #[.agg #[.int .i64 0,.int .i64 0],.iface 336 (.pointer (some (ev 2)))])) W):=fun W b=>⟨rfl,nN.same h b⟩
 have b1:Below w.heap.size w (w.alloc zO):=by unfold zO;exact jY
 have RI:=wT k v (h.go b1);rw[hr,e2] at RI;have HRI:=ah RI;obtain⟨⟨bt,bg,vr,vw,q⟩,hi⟩:=h.go b1;have c7:=q.b.c.gC 7;have cl:=q.b.c.lt;rw[hc] at c7;have LB:=ah (show jR (w.alloc zO) w.heap.size [.int .i64 0,.int .i64 0] from jR.mk_ w [.int .i64 0,.int .i64 0] 40 rfl);obtain⟨W1,hW1⟩:=eX (w.alloc zO);rw[hW1] at c7 cl LB b1 HRI;have HB:=ah b1;clear q hi h hc b1 RI hr e2;go_in
 unfold zO at hW1;go_wp2_with fail;clear hW1;refine HRI.out.mono ?_;rintro r w2 ⟨rfl,hb2⟩;have L2:=LB.out.go hb2;have m0:=L2.gC 0;have m1:=L2.gC 1;have f0:=L2.f 0 sI;have f1:=L2.f 1 sI;have ml:=L2.lt;have LF:=ah (L2.lq (.int .i64 0) (.int .i64 0));have HB2:=ah (HB.out.trans (hb2.mono HB.out.size));clear L2 hb2 c7 cl HRI;go_wp2;have e0:=LF.out.gC 0;have e1:=LF.out.gC 1;exact bodyPost_ret (v:=.tuple #[.agg #[.int .i64 0,.int .i64 0],.iface 336 (.pointer (some (ev 2)))]) (by simp[e0,e1,results,ig,go_sem]) rfl (FIN.out _ (HB2.out.trans jY))
theorem ptake_C (k v:Int) (hlast:p.last<4611686018427387904) (h:PoX E X F pp p w) (hc:p.cl=false) (hr:xR p k v=0) (hw:0<p.W.length):
 Calls prog 13 #[.pointer (some ⟨pp,0,none⟩),.int .i64 k,.int .i64 v] w (EPost (kQ E pp).S X F (mY p).1 w (.tuple #[.agg #[.int .i64 0,.int .i64 0],kM ev (mY p).2])):=by
 have R1:pQ (kQ E pp) X F w [w.heap.size] (w.heap.size::X) p (w.alloc zO):=(pQ.start (E:=kQ E pp) h).box zO;have P1:PoX E (w.heap.size::X) ([w.heap.size]++F) pp p (w.alloc zO):=R1.t;have RI:=wT k v P1;rw[hr,show kM ev 0= .nilIface from rfl] at RI;have HRI:=ah RI;have HR1:=ah R1;have WT:Hid (∀W,Below (w.alloc zO).heap.size (w.alloc zO) W→Calls prog 58 #[.pointer (some ⟨pp,0,none⟩)] W (PPost E (w.heap.size::X) ([w.heap.size]++F) pp (mY p).1 W (kM ev (mY p).2))):=fun W b=>Qw hlast (P1.go b)
 obtain⟨⟨bt,bg,vr,vw,q⟩,hi⟩:=P1;obtain⟨qw,kw,rfl⟩:=l6 q.b.ow;have HC:=ah q.b.c;have c7:=HC.out.gC 7;have cl:=HC.out.lt;rw[hc] at c7;have LB:=ah (show jR (w.alloc zO) w.heap.size [.int .i64 0,.int .i64 0] from jR.mk_ w [.int .i64 0,.int .i64 0] 40 rfl);obtain⟨p',hp'⟩: ∃p',p'=mY p:=⟨_,rfl⟩;rw[←hp'] at WT ⊢;obtain⟨n,hn⟩:=eY p.W.length;have HN:=ah hn;rw[←hn] at hw;have d0:decide (0<n)=true:=dQt hw;obtain⟨W1,hW1⟩:=eX (w.alloc zO);rw[hW1] at c7 cl LB HRI HC WT HR1;clear q hi h hc RI hr R1 hp' hn;go_in
 unfold zO at hW1;go_wp2_with fail;clear hW1;refine HRI.out.mono ?_;rintro r w2 ⟨rfl,hb2⟩;have C2:=HC.out.go hb2;have c4:=C2.gC 4;have cl2:=C2.lt;rw[←HN.out] at c4;have HB2:=ah hb2;clear c7 cl HRI C2 hb2;go_wp2_with fail;refine(WT.out w2 HB2.out).mono ?_;rintro r w3 hp;obtain⟨rfl',X3,R3,k3⟩:=(HR1.out.go HB2.out).act hp;obtain rfl:r= .returned (kM ev p'.2):=rfl';have L3:=pQ.loc (b:=w.heap.size) sI (LB.out.go HB2.out) k3;have m0:=L3.gC 0;have m1:=L3.gC 1;have f0:=L3.f 0 sI;have f1:=L3.f 1 sI;have ml:=L3.lt;have LF:=ah (L3.lq (.int .i64 0) (.int .i64 0));have HR3:=ah R3;clear L3 hp k3 R3 WT c4 cl2;go_wp2;have e0:=LF.out.gC 0;have e1:=LF.out.gC 1;refine bodyPost_ret (v:=.tuple #[.agg #[.int .i64 0,.int .i64 0],kM ev p'.2]) (by simp[e0,e1,results,ig,go_sem]) rfl (HR3.out.wr (b:=w.heap.size) sI ?_).fin;exact((Keep.refl [w.heap.size] w3).setCell (p:=⟨w.heap.size,0,none⟩) (.inl sI) _).setCell (p:=⟨w.heap.size,1,none⟩) (.inl sI) _
theorem Ke {e:Nat} {c:Ca} (h:uR e c) {o:Ob} (ho:o∈qj e c.C):qJ o:=by
 have h1:=ob_one h ho;obtain⟨s,hs,k,hk,rfl⟩:=tH.1 ho;have h2:=h.rng hs;have h3:=h.zl;refine⟨?_,?_⟩
 ·show kW s.nd
  unfold kW;omega
 ·unfold kW;omega
theorem nX.fit (h:nX e p): ∀x∈p.obs,qJ x:=fun x hx=>by
 obtain⟨l,hm,hs⟩:=h.mo;exact Ke h.inv.c ((hm.iff x).2 (.inl (hs x hx)))
theorem nX.Ip (h:nX e p): ∀x∈p.T,qJ x:=fun x hx=>h.fit x (aj _ (av _ hx))
theorem nX.few (h:nX e p):p.obs.length≤65536:=by
 obtain⟨l,hm,hs⟩:=h.mo;exact bW (yP h.nd fun x hx=>(hm.iff x).2 (.inl (hs x hx))) (oU h.inv.c)
theorem nX.Jh (h:nX e p):p.T.length≤65536∧p.G.length≤65536:=by
 have:=h.few;unfold Po.obs at this;simp at this;omega
theorem nX.ndT (h:nX e p):p.T.Nodup:=(bF.1 (bF.1 h.nd).2.1).1
theorem qO.ins {w:World} {bt:Nat} {T:List Ob} {o:Ob} (h:qO prog 40 w bt (EF T)) (hT: ∀x∈T,qJ x) (ho:qJ o) (hn:o∉T) (hl:T.length≤65536):
 ∃w',(Instr.mapUpdate 117 (.map (some bt)) (.agg #[.int .i64 o.1,.int .i64 o.2]) (.bool true)).run prog w= .ok () w'∧qO prog 40 w' bt (EF (T++[o]))∧w.mapTurned w' bt:=by
 obtain⟨w',h1,h2,h3⟩:=h.put Qs iH (by unfold EF maxLen;simp;omega) (val:=.bool true) (keyO ho);have e1:pG (EF T) (kO o)=none:=by rw[Qt hT ho,if_neg hn]
 rw[Ch e1] at h2;refine⟨w',h1,h2.perm ?_,h3⟩;unfold EF;simp only[dz,bH,eu];exact(jF (l₁:=[(kO o,Value.bool true)]) (l₂:=T.map fun o=>(kO o,Value.bool true)))
theorem ptake_D (k v:Int) (h:PoX E X F pp p w) (hc:p.cl=false) (hr:xR p k v=0) (hw:p.W=[]) {d':De} {o:Ob} (ht:takeD mn O e p.d k v false=(d',0,o)) (hP:nX e ⟨d',p.most,p.R,p.T++[o],p.W,p.G,p.last,p.cl⟩):
 Calls prog 13 #[.pointer (some ⟨pp,0,none⟩),.int .i64 k,.int .i64 v] w (EPost (kQ E pp).S X F ⟨d',p.most,p.R,p.T++[o],p.W,p.G,p.last,p.cl⟩ w (.tuple #[.agg #[.int .i64 o.1,.int .i64 o.2],.nilIface])):=by
 have R1:pQ (kQ E pp) X F w [w.heap.size] (w.heap.size::X) p (w.alloc zO):=(pQ.start (E:=kQ E pp) h).box zO;have P1:PoX E (w.heap.size::X) ([w.heap.size]++F) pp p (w.alloc zO):=R1.t;have RI:=wT k v P1;rw[hr,show kM ev 0= .nilIface from rfl] at RI;have HRI:=ah RI;have HR1:=ah R1;have HP:=ah hP;have hT:=h.2.took (mn:=mn) h.ord k v;rw[ht] at hT;have TK:Hid (∀W,Below (w.alloc zO).heap.size (w.alloc zO) W→Calls prog 23 #[.pointer (some ⟨pd,0,none⟩),.int .i64 k,.int .i64 v,.bool false] W (EPost (kQ E pp).S (w.heap.size::X) ([w.heap.size]++F) (p.atD d') W (.tuple #[.agg #[.int .i64 o.1,.int .i64 o.2],.nilIface]))):=fun W b=>by
  obtain⟨Z,z1,z2⟩:=(P1.go b).Dn (d:=d') hT;have:=E.take k v false z1;rw[ht] at this;exact this.mono fun r w' hp=>z2 hp
 obtain⟨⟨bt,bg,vr,vw,q⟩,hi⟩:=P1;obtain⟨qw,kw,rfl⟩:=l6 q.b.ow;have HC:=ah q.b.c;have c7:=HC.out.gC 7;have cl:=HC.out.lt;rw[hc] at c7;have LB:=ah (show jR (w.alloc zO) w.heap.size [.int .i64 0,.int .i64 0] from jR.mk_ w [.int .i64 0,.int .i64 0] 40 rfl);obtain⟨n,hn⟩:=eY p.W.length;have HN:=ah hn;rw[hw] at hn;obtain rfl:n=0:=hn;obtain⟨W1,hW1⟩:=eX (w.alloc zO);rw[hW1] at c7 cl LB HRI HC HR1 TK;clear q hi h RI hr R1 hP hT ht hw hc;go_in
 unfold zO at hW1;go_wp2_with fail;clear hW1;refine HRI.out.mono ?_;rintro r w2 ⟨rfl,hb2⟩;have C2:=HC.out.go hb2;have c4:=C2.gC 4;have c0:=C2.gC 0;have cl2:=C2.lt;rw[←HN.out] at c4;have HB2:=ah hb2;clear c7 cl HRI C2 hb2;go_wp2_with fail;refine(TK.out w2 HB2.out).mono ?_;rintro r w3 hp;obtain⟨rfl',X3,R3,k3⟩:=(HR1.out.go HB2.out).act hp;obtain rfl:r= .returned (.tuple #[.agg #[.int .i64 o.1,.int .i64 o.2],.nilIface]):=rfl';have L3:=pQ.loc (b:=w.heap.size) sI (LB.out.go HB2.out) k3;clear hp k3 TK c4 c0 cl2;have z3:=L3.lt;obtain⟨w5,hw5⟩:=eX (w3.alloc (.cells #[.int .i64 o.1,.int .i64 o.2] 40));have R5:pQ (kQ E pp) X F w [w3.heap.size,w.heap.size] (w3.heap.size::X3) (p.atD d') w5:=by
  rw[←hw5];exact R3.box _
 have B5:Below w3.heap.size w3 w5:=by rw[←hw5];exact jY
 have N5:=jR.mk_ w3 [.int .i64 o.1,.int .i64 o.2] 40 rfl;rw[hw5] at N5;have L5:=L3.go B5;have HL5:=ah L5;have HN5:=ah N5;have P5:PoX E (w3.heap.size::X3) ([w3.heap.size,w.heap.size]++F) pp (p.atD d') w5:=R5.t;have E5:=P5.err;have HR5:=ah R5;have gs7:w5.cell? ⟨3,0,none⟩=some (.iface 336 (.pointer (some (ev 7)))):=(E5.at 7 (by decide) (by decide)).1;have gl7:3<w5.heap.size:=(E5.at 7 (by decide) (by decide)).2;have gs5:w5.cell? ⟨4,0,none⟩=some (.iface 336 (.pointer (some (ev 5)))):=(E5.at 5 (by decide) (by decide)).1;have gl5:4<w5.heap.size:=(E5.at 5 (by decide) (by decide)).2;have IS7:=ah (Wz (ev 7) w5);have IS5:=ah (Wz (ev 5) w5);obtain⟨⟨bt5,bg5,vr5,vw5,q5⟩,hi5⟩:=P5;obtain⟨qr,kr,rfl,_,hkr⟩:=q5.b.r.isSlice;have c2:=q5.b.c.gC 2;have c3:=q5.b.c.gC 3;have cl5:=q5.b.c.lt;have hrl:p.R.length≤16:=by have h1:=hi5.r;have h2:=hi5.m1.2;exact bW h1 h2
 obtain⟨m,hm⟩:=eY p.R.length;have HM:=ah hm;rw[show(p.atD d').R.length=p.R.length from rfl,←hm] at c2;rw[←hm] at hrl;have hwm:IntKind.i64.wrap ((m:Int)-1)=(m:Int)-1:=aY _ om;have HQ5:=ah q5;have x0:=N5.gC 0;have x1:=N5.gC 1;have xl:=N5.lt;have oT:o∉p.T:=by
  have:=HP.out.ndT;simp only at this;exact fun r=>(bF.1 this).2.2 o r o sI rfl
 have oF:qJ o:=HP.out.Ip o sI;obtain⟨w6,hrun,M6,T6⟩:=(q5.b.t.keep (Keep.refl [] w5).drew sI).ins hi5.Ip oF oT hi5.Jh.1;have HM6:=ah M6;have K6:Keep [bt5] w5 w6:=(Keep.refl [bt5] w5).drew.then (mJ T6 (.inl sI));have nb1:w.heap.size≠bt5:=fun r=>q5.f w.heap.size sI (r▸nY)
 have nb2:w3.heap.size≠bt5:=fun r=>q5.f w3.heap.size sI (r▸nY)
 have L6:=L5.keep K6 (by simpa using nb1);have N6:=N5.keep K6 (by simpa using nb2);have m0:=L6.gC 0;have m1:=L6.gC 1;have f0:=L6.f 0 sI;have f1:=L6.f 1 sI;have ml:=L6.lt;have y0:=N6.gC 0;have y1:=N6.gC 1;have yl:=N6.lt;have LF:=ah (L6.lq (.int .i64 o.1) (.int .i64 o.2));have FIN:=ah (show nN E (w3.heap.size::X3) ([w3.heap.size,w.heap.size]++F) pp ⟨d',p.most,p.R,p.T++[o],p.W,p.G,p.last,p.cl⟩ w5 w6 from
  q5.putR (p':=⟨d',p.most,p.R,p.T++[o],p.W,p.G,p.last,p.cl⟩) (K6.mono (fun s r=>by simp at r;subst r;simp)) (q5.b.c.keep K6 (by simp;exact q5.b.ne.1)) M6 (q5.b.g.keep K6 (by simp;exact fun r=>q5.b.ne.2.2.1 r.symm)) (q5.b.r.keep K6 (fun s r=>by simp at r;subst r;exact .inl (q5.inX _ nY))) rfl rfl HP.out)
 clear q5 hi5 hm E5 R5 R3 HR1 L3 L5 N5 B5 M6 T6 oT oF K6 nb1 nb2 L6 N6;go_wp2_with fail;clear hw5;refine IS7.out.mono ?_;rintro r w6' ⟨rfl,rfl⟩;go_wp2_with fail;refine IS5.out.mono ?_;rintro r w6' ⟨rfl,rfl⟩;go_wp2_with fail;refine lJ 5 kR kR ?_;simp only[aQ,aV,aP,aU];repeat still_step
 refine wpStill_nil ?_;go_wp2;have e0:=LF.out.gC 0;have e1:=LF.out.gC 1;obtain⟨_,X6,R6,_⟩:=HR5.out.act (r:=.nilIface) (en:=.returned .nilIface) ⟨rfl,FIN.out⟩;refine bodyPost_ret (v:=.tuple #[.agg #[.int .i64 o.1,.int .i64 o.2],.nilIface]) (by simp[e0,e1,results,ig,go_sem]) rfl (R6.wr (b:=w.heap.size) sI ?_).fin;exact((Keep.refl [w.heap.size] w6).setCell (p:=⟨w.heap.size,0,none⟩) (.inl sI) _).setCell (p:=⟨w.heap.size,1,none⟩) (.inl sI) _
theorem ptake_E (k v:Int) (hlast:p.last<4611686018427387904) (h:PoX E X F pp p w) (hc:p.cl=false) (hr:xR p k v=0) (hw:p.W=[]) {d':De} {c:Nat} {o:Ob} (ht:takeD mn O e p.d k v false=(d',c,o)) (h57:c=5∨c=7) (hR:p.R=[]):
 Calls prog 13 #[.pointer (some ⟨pp,0,none⟩),.int .i64 k,.int .i64 v] w (EPost (kQ E pp).S X F (mY (p.atD d')).1 w (.tuple #[.agg #[.int .i64 0,.int .i64 0],kM ev (mY (p.atD d')).2])):=by
 obtain⟨p',hp'⟩: ∃p',p'=mY (p.atD d'):=⟨_,rfl⟩;have HP':=ah hp';rw[←hp'];clear hp';have hev:kM ev c= .iface 336 (.pointer (some (ev c))):=by rcases h57 with rfl|rfl<;>rfl
 have R1:pQ (kQ E pp) X F w [w.heap.size] (w.heap.size::X) p (w.alloc zO):=(pQ.start (E:=kQ E pp) h).box zO;have P1:PoX E (w.heap.size::X) ([w.heap.size]++F) pp p (w.alloc zO):=R1.t;have RI:=wT k v P1;rw[hr,show kM ev 0= .nilIface from rfl] at RI;have HRI:=ah RI;have HR1:=ah R1;have hT:=h.2.took (mn:=mn) h.ord k v;rw[ht] at hT;have TK:Hid (∀W,Below (w.alloc zO).heap.size (w.alloc zO) W→Calls prog 23 #[.pointer (some ⟨pd,0,none⟩),.int .i64 k,.int .i64 v,.bool false] W (EPost (kQ E pp).S (w.heap.size::X) ([w.heap.size]++F) (p.atD d') W (.tuple #[.agg #[.int .i64 o.1,.int .i64 o.2],.iface 336 (.pointer (some (ev c)))]))):=fun W b=>by
  obtain⟨Z,z1,z2⟩:=(P1.go b).Dn (d:=d') hT;have:=E.take k v false z1;rw[ht,hev] at this;exact this.mono fun r w' hp=>z2 hp
 obtain⟨⟨bt,bg,vr,vw,q⟩,hi⟩:=P1;obtain⟨qw,kw,rfl⟩:=l6 q.b.ow;have HC:=ah q.b.c;have c7:=HC.out.gC 7;have cl:=HC.out.lt;rw[hc] at c7;have LB:=ah (show jR (w.alloc zO) w.heap.size [.int .i64 0,.int .i64 0] from jR.mk_ w [.int .i64 0,.int .i64 0] 40 rfl);obtain⟨n,hn⟩:=eY p.W.length;have HN:=ah hn;rw[hw] at hn;obtain rfl:n=0:=hn;obtain⟨W1,hW1⟩:=eX (w.alloc zO);rw[hW1] at c7 cl LB HRI HC HR1 TK;clear q hi h RI hr R1 hT ht hw hc hev;go_in
 unfold zO at hW1;go_wp2_with fail;clear hW1;refine HRI.out.mono ?_;rintro r w2 ⟨rfl,hb2⟩;have C2:=HC.out.go hb2;have c4:=C2.gC 4;have c0:=C2.gC 0;have cl2:=C2.lt;rw[←HN.out] at c4;have HB2:=ah hb2;clear c7 cl HRI C2 hb2;go_wp2_with fail;refine(TK.out w2 HB2.out).mono ?_;rintro r w3 hp;obtain⟨rfl',X3,R3,k3⟩:=(HR1.out.go HB2.out).act hp;obtain rfl:r= .returned (.tuple #[.agg #[.int .i64 o.1,.int .i64 o.2],.iface 336 (.pointer (some (ev c)))]):=rfl';have L3:=pQ.loc (b:=w.heap.size) sI (LB.out.go HB2.out) k3;clear hp k3 TK c4 c0 cl2;have z3:=L3.lt;obtain⟨w5,hw5⟩:=eX (w3.alloc (.cells #[.int .i64 o.1,.int .i64 o.2] 40));have R5:pQ (kQ E pp) X F w [w3.heap.size,w.heap.size] (w3.heap.size::X3) (p.atD d') w5:=by
  rw[←hw5];exact R3.box _
 have B5:Below w3.heap.size w3 w5:=by rw[←hw5];exact jY
 have N5:=jR.mk_ w3 [.int .i64 o.1,.int .i64 o.2] 40 rfl;rw[hw5] at N5;have L5:=L3.go B5;have HL5:=ah L5;have HN5:=ah N5;have P5:PoX E (w3.heap.size::X3) ([w3.heap.size,w.heap.size]++F) pp (p.atD d') w5:=R5.t;have E5:=P5.err;have HR5:=ah R5;have gs7:w5.cell? ⟨3,0,none⟩=some (.iface 336 (.pointer (some (ev 7)))):=(E5.at 7 (by decide) (by decide)).1;have gl7:3<w5.heap.size:=(E5.at 7 (by decide) (by decide)).2;have gs5:w5.cell? ⟨4,0,none⟩=some (.iface 336 (.pointer (some (ev 5)))):=(E5.at 5 (by decide) (by decide)).1;have gl5:4<w5.heap.size:=(E5.at 5 (by decide) (by decide)).2;have IS7:=ah (wM c 7 w5 E5 om om (by decide) (by decide));have IS5:=ah (wM c 5 w5 E5 om om (by decide) (by decide));obtain⟨⟨bt5,bg5,vr5,vw5,q5⟩,hi5⟩:=P5;obtain⟨qr,kr,rfl,_,hkr⟩:=q5.b.r.isSlice;have c2:=q5.b.c.gC 2;have c3:=q5.b.c.gC 3;have cl5:=q5.b.c.lt;have hrl:p.R.length≤16:=by have h1:=hi5.r;have h2:=hi5.m1.2;exact bW h1 h2
 obtain⟨m,hm⟩:=eY p.R.length;have HM:=ah hm;rw[show(p.atD d').R.length=p.R.length from rfl,←hm] at c2;rw[←hm] at hrl;have hwm:IntKind.i64.wrap ((m:Int)-1)=(m:Int)-1:=aY _ om;have WT:=ah (Qw (p:=p.atD d') hlast R5.t);rw[hR] at hm;obtain rfl:m=0:=hm;rw[←HP'.out] at WT;clear q5 hi5 R5 R3 HR1 L3 L5 N5 B5 hR E5;go_wp2_with fail;clear hw5;refine IS7.out.mono ?_;rintro r w6' ⟨rfl,rfl⟩;rcases h57 with rfl|rfl;case' inl=>
  simp only[show decide ((5:Nat)=7)=false from rfl];go_wp2_with fail;refine IS5.out.mono ?_;rintro r w6' ⟨rfl,rfl⟩;simp only[show decide ((5:Nat)=5)=true from rfl];go_wp2_with fail
 case' inr=>
  simp only[show decide ((7:Nat)=7)=true from rfl];go_wp2_with fail
 all_goals
  refine WT.out.mono ?_;rintro r w6 hp;obtain⟨rfl',X6,R6,k6⟩:=HR5.out.act hp;obtain rfl:r= .returned (kM ev p'.2):=rfl';have L6:=pQ.loc (b:=w.heap.size) sI HL5.out k6;have m0:=L6.gC 0;have m1:=L6.gC 1;have f0:=L6.f 0 sI;have f1:=L6.f 1 sI;have ml:=L6.lt;have LF:=ah (L6.lq (.int .i64 0) (.int .i64 0));have HR6:=ah R6;clear L6 hp k6 R6;go_wp2;have e0:=LF.out.gC 0;have e1:=LF.out.gC 1;refine bodyPost_ret (v:=.tuple #[.agg #[.int .i64 0,.int .i64 0],kM ev p'.2]) (by simp[e0,e1,results,ig,go_sem]) rfl (HR6.out.wr (b:=w.heap.size) sI ?_).fin;exact((Keep.refl [w.heap.size] w6).setCell (p:=⟨w.heap.size,0,none⟩) (.inl sI) _).setCell (p:=⟨w.heap.size,1,none⟩) (.inl sI) _
theorem ptake_F (k v:Int) (h:PoX E X F pp p w) (hc:p.cl=false) (hr:xR p k v=0) (hw:p.W=[]) {d':De} {c:Nat} {o:Ob} (ht:takeD mn O e p.d k v false=(d',c,o)) (h57:c=5∨c=7) {R':List Ob} {o':Ob} (hR:p.R=R'++[o']) (hP:nX e ⟨d',p.most,R',p.T++[o'],p.W,p.G,p.last,p.cl⟩):
 Calls prog 13 #[.pointer (some ⟨pp,0,none⟩),.int .i64 k,.int .i64 v] w (EPost (kQ E pp).S X F ⟨d',p.most,R',p.T++[o'],p.W,p.G,p.last,p.cl⟩ w (.tuple #[.agg #[.int .i64 o'.1,.int .i64 o'.2],.nilIface])):=by
 have hev:kM ev c= .iface 336 (.pointer (some (ev c))):=by rcases h57 with rfl|rfl<;>rfl
 have R1:pQ (kQ E pp) X F w [w.heap.size] (w.heap.size::X) p (w.alloc zO):=(pQ.start (E:=kQ E pp) h).box zO;have P1:PoX E (w.heap.size::X) ([w.heap.size]++F) pp p (w.alloc zO):=R1.t;have RI:=wT k v P1;rw[hr,show kM ev 0= .nilIface from rfl] at RI;have HRI:=ah RI;have HR1:=ah R1;have HP:=ah hP;have HRR:=ah hR;have hT:=h.2.took (mn:=mn) h.ord k v;rw[ht] at hT;have TK:Hid (∀W,Below (w.alloc zO).heap.size (w.alloc zO) W→Calls prog 23 #[.pointer (some ⟨pd,0,none⟩),.int .i64 k,.int .i64 v,.bool false] W (EPost (kQ E pp).S (w.heap.size::X) ([w.heap.size]++F) (p.atD d') W (.tuple #[.agg #[.int .i64 o.1,.int .i64 o.2],.iface 336 (.pointer (some (ev c)))]))):=fun W b=>by
  obtain⟨Z,z1,z2⟩:=(P1.go b).Dn (d:=d') hT;have:=E.take k v false z1;rw[ht,hev] at this;exact this.mono fun r w' hp=>z2 hp
 obtain⟨⟨bt,bg,vr,vw,q⟩,hi⟩:=P1;obtain⟨qw,kw,rfl⟩:=l6 q.b.ow;have HC:=ah q.b.c;have c7:=HC.out.gC 7;have cl:=HC.out.lt;rw[hc] at c7;have LB:=ah (show jR (w.alloc zO) w.heap.size [.int .i64 0,.int .i64 0] from jR.mk_ w [.int .i64 0,.int .i64 0] 40 rfl);obtain⟨n,hn⟩:=eY p.W.length;have HN:=ah hn;rw[hw] at hn;obtain rfl:n=0:=hn;obtain⟨W1,hW1⟩:=eX (w.alloc zO);rw[hW1] at c7 cl LB HRI HC HR1 TK;clear q hi h RI hr R1 hT ht hw hc hev hP hR;go_in
 unfold zO at hW1;go_wp2_with fail;clear hW1;refine HRI.out.mono ?_;rintro r w2 ⟨rfl,hb2⟩;have C2:=HC.out.go hb2;have c4:=C2.gC 4;have c0:=C2.gC 0;have cl2:=C2.lt;rw[←HN.out] at c4;have HB2:=ah hb2;clear c7 cl HRI C2 hb2;go_wp2_with fail;refine(TK.out w2 HB2.out).mono ?_;rintro r w3 hp;obtain⟨rfl',X3,R3,k3⟩:=(HR1.out.go HB2.out).act hp;obtain rfl:r= .returned (.tuple #[.agg #[.int .i64 o.1,.int .i64 o.2],.iface 336 (.pointer (some (ev c)))]):=rfl';have L3:=pQ.loc (b:=w.heap.size) sI (LB.out.go HB2.out) k3;clear hp k3 TK c4 c0 cl2;have z3:=L3.lt;obtain⟨w5,hw5⟩:=eX (w3.alloc (.cells #[.int .i64 o.1,.int .i64 o.2] 40));have R5:pQ (kQ E pp) X F w [w3.heap.size,w.heap.size] (w3.heap.size::X3) (p.atD d') w5:=by
  rw[←hw5];exact R3.box _
 have B5:Below w3.heap.size w3 w5:=by rw[←hw5];exact jY
 have N5:=jR.mk_ w3 [.int .i64 o.1,.int .i64 o.2] 40 rfl;rw[hw5] at N5;have L5:=L3.go B5;have HL5:=ah L5;have HN5:=ah N5;have P5:PoX E (w3.heap.size::X3) ([w3.heap.size,w.heap.size]++F) pp (p.atD d') w5:=R5.t;have E5:=P5.err;have HR5:=ah R5;have gs7:w5.cell? ⟨3,0,none⟩=some (.iface 336 (.pointer (some (ev 7)))):=(E5.at 7 (by decide) (by decide)).1;have gl7:3<w5.heap.size:=(E5.at 7 (by decide) (by decide)).2;have gs5:w5.cell? ⟨4,0,none⟩=some (.iface 336 (.pointer (some (ev 5)))):=(E5.at 5 (by decide) (by decide)).1;have gl5:4<w5.heap.size:=(E5.at 5 (by decide) (by decide)).2;have IS7:=ah (wM c 7 w5 E5 om om (by decide) (by decide));have IS5:=ah (wM c 5 w5 E5 om om (by decide) (by decide));obtain⟨⟨bt5,bg5,vr5,vw5,q5⟩,hi5⟩:=P5;obtain⟨qr,kr,rfl,hcr,hkr⟩:=q5.b.r.isSlice;have c2:=q5.b.c.gC 2;have c3:=q5.b.c.gC 3;have cl5:=q5.b.c.lt;have hrl:p.R.length≤16:=by have h1:=hi5.r;have h2:=hi5.m1.2;exact bW h1 h2
 obtain⟨m,hm⟩:=eY p.R.length;have HM:=ah hm;rw[show(p.atD d').R.length=p.R.length from rfl,←hm] at c2;rw[←hm] at hrl;have hwm:IntKind.i64.wrap ((m:Int)-1)=(m:Int)-1:=aY _ om;have rl:m=R'.length+1:=by rw[hm,HRR.out];simp
 obtain⟨n',hn'⟩: ∃n',n'=R'.length:=⟨_,rfl⟩;have HN':=ah hn';rw[←hn'] at rl;subst rl;have hwm':IntKind.i64.wrap (((n'+1:Nat):Int)-1)=(n':Int):=by rw[hwm];omega
 have r5:mD (w3.heap.size::X3) w5 (.slice qr (n'+1) kr) (R'++[o']):=by
  have:=q5.b.r;rw[show(p.atD d').R=R'++[o'] from HRR.out] at this;rw[show(R'++[o']).length=n'+1 by rw[hn'];simp] at this;exact this
 obtain⟨rg,ro,rfl,rgx,rgl,t0,t1⟩:=r5.at (j:=n') (o:=o') (by rw[hn'];simp);have d9:decide ((n':Int)<0)=false:=dQf om;have KR:=ah hkr;have rcut:mD (w3.heap.size::X3) w5 (.slice (some ⟨rg,ro,none⟩) n' kr) R':=by
  obtain⟨p2,cap2,g1,g2⟩:=r5.cut n' (by rw[hn'];simp);obtain⟨g3,g4,g5⟩:=fu g1;subst g3 g5;rw[hn'] at g2 ⊢;simpa using g2
 have RCUT:=ah rcut;have oP:o'∉p.T:=by
  have:=HP.out.ndT;exact fun r=>(bF.1 this).2.2 o' r o' sI rfl
 have oF:qJ o':=HP.out.Ip o' sI;have fb:w5.frozen? ⟨w3.heap.size,0,none⟩=false:=HN5.out.f 0 sI;have fb1:w5.frozen? ⟨w3.heap.size,1,none⟩=false:=HN5.out.f 1 sI;have fr:w5.frozen? ⟨pp,2,none⟩=false:=q5.b.c.f 2 (by simp[kS]);have nbp:w3.heap.size≠pp:=fun r=>q5.f w3.heap.size sI (r▸nK)
 have nbp': ¬(w3.heap.size=pp):=nbp;have nbp2: ¬(pp=w3.heap.size):=fun r=>nbp r.symm
 have nrg: ¬(w3.heap.size=rg):=fun r=>rgx (r▸aG ..)
 have nrg2: ¬(rg=w3.heap.size):=fun r=>nrg r.symm
 have nb0:w.heap.size≠pp:=fun r=>q5.f w.heap.size sI (r▸nK)
 obtain⟨w5b,hw5b⟩:=eX ((w5.setCell ⟨w3.heap.size,0,none⟩ (.int .i64 o'.1)).setCell ⟨w3.heap.size,1,none⟩ (.int .i64 o'.2));obtain⟨w6,hw6⟩:=eX (w5b.setCell ⟨pp,2,none⟩ (.slice (some ⟨rg,ro,none⟩) n' kr));have K5b:Keep [w3.heap.size] w5 w5b:=by rw[←hw5b];exact(((Keep.refl _ _).setCell (p:=⟨w3.heap.size,0,none⟩) (.inl sI) _).setCell (p:=⟨w3.heap.size,1,none⟩) (.inl sI) _)
 have K56:Keep [pp] w5b w6:=by rw[←hw6];exact(Keep.refl _ _).setCell (p:=⟨pp,2,none⟩) (.inl sI) _
 have R5b:pQ (kQ E pp) X F w [w3.heap.size,w.heap.size] (w3.heap.size::X3) (p.atD d') w5b:=R5.wr (b:=w3.heap.size) sI K5b;have q5b:PoT E (w3.heap.size::X3) ([w3.heap.size,w.heap.size]++F) pp bt5 bg5 (.slice (some ⟨rg,ro,none⟩) p.R.length kr) vw5 (p.atD d') w5b:=⟨E.other q5.s K5b (fun g t=>aj _ (by simp at t;subst t;simp)),q5.b.keep K5b (fun s t=>by simp at t;subst t;exact⟨q5.f _ sI,.inl (aG ..)⟩),q5.f⟩;have N5c:=HN5.out.lq (.int .i64 o'.1) (.int .i64 o'.2);rw[hw5b] at N5c;have C5b:=q5b.b.c;have C6:=C5b.store 2 (.slice (some ⟨rg,ro,none⟩) n' kr) (by simp[kS]);rw[hw6] at C6;have np6:pp∉[pp]→False:=fun r=>r sI
 have N6:=N5c.keep K56 (by simpa using nbp);have L6:=(HL5.out.keep K5b (by simp;omega)).keep K56 (by simpa using nb0);have nbt:bt5≠pp:=fun r=>q5.b.ne.1 r.symm
 have nbg:bg5≠pp:=fun r=>q5.b.ne.2.1 r.symm
 obtain⟨w7,hrun,M7,T7⟩:=((q5b.b.t.keep K56 (by simpa using nbt)).keep (Keep.refl [] w6).drew.drew sI).ins hi5.Ip oF oP hi5.Jh.1;have K67:Keep [bt5] w6 w7:=(Keep.refl [bt5] w6).drew.drew.then (mJ T7 (.inl sI));have nb1:w.heap.size≠bt5:=fun r=>q5.f w.heap.size sI (r▸nY)
 have nb2:w3.heap.size≠bt5:=fun r=>q5.f w3.heap.size sI (r▸nY)
 have L7:=L6.keep K67 (by simpa using nb1);have N7:=N6.keep K67 (by simpa using nb2);have m0:=L7.gC 0;have m1:=L7.gC 1;have f0:=L7.f 0 sI;have f1:=L7.f 1 sI;have ml:=L7.lt;have y0:=N7.gC 0;have y1:=N7.gC 1;have yl:=N7.lt;have u0:=N6.gC 0;have u1:=N6.gC 1;have ul:=N6.lt;have u3:=C6.gC 3;have ucl:=C6.lt;have LF:=ah (L7.lq (.int .i64 o'.1) (.int .i64 o'.2));have K57:Keep [pp,bt5,bg5] w5b w7:=(K56.mono (fun s r=>by simp at r;subst r;simp)).then (K67.mono (fun s r=>by simp at r;subst r;simp));have FIN:=ah (show nN E (w3.heap.size::X3) ([w3.heap.size,w.heap.size]++F) pp ⟨d',p.most,R',p.T++[o'],p.W,p.G,p.last,p.cl⟩ w5b w7 from
  q5b.putR (vr':=.slice (some ⟨rg,ro,none⟩) n' kr) (p':=⟨d',p.most,R',p.T++[o'],p.W,p.G,p.last,p.cl⟩) K57 (C6.keep K67 (by simp;exact fun r=>nbt r.symm)) M7 ((q5b.b.g.keep K56 (by simpa using nbg)).keep K67 (by simp;exact fun r=>q5.b.ne.2.2.1 r.symm))
   ((rcut.keep K5b (fun s r=>by simp at r;subst r;exact .inl (aG ..))).keep K57 (fun s r=>by
     simp at r;rcases r with rfl|rfl|rfl
     ·exact .inl (q5b.inX _ nK)
     ·exact .inl (q5b.inX _ nY)
     ·exact .inl (q5b.inX _ tC))) rfl rfl HP.out)
 have HR5b:=ah R5b;have x0:=HN5.out.gC 0;have x1:=HN5.out.gC 1;have xl:=HN5.out.lt;have n0:(0:Int)≤(n':Int):=om;have n1:(n':Int)<(n':Int)+1:=om;have n2:(n':Int)≤(kr:Int):=by
  have h1:p.R.length≤kr:=hcr;rw[HRR.out] at h1;simp at h1;omega
 have n3:(n':Int).toNat=n':=om;clear hcr q5 hi5 hm E5 R5 R3 HR1 L3 L5 N5 B5 M7 T7 oP oF K67 K57 K56 K5b R5b q5b N5c C5b C6 N6 L6 N7 L7 r5 rcut nb1 nb2 nbt nbg nb0 np6 hn' rgx;rw[←hw5b] at hw6;clear hw5b;go_wp2_with fail;clear hw5;refine IS7.out.mono ?_;rintro r w6' ⟨rfl,rfl⟩;rcases h57 with rfl|rfl;case' inl=>
  simp only[show decide ((5:Nat)=7)=false from rfl];go_wp2_with fail;refine IS5.out.mono ?_;rintro r w6' ⟨rfl,rfl⟩;simp only[show decide ((5:Nat)=5)=true from rfl];go_wp2_with fail
 case' inr=>
  simp only[show decide ((7:Nat)=7)=true from rfl];go_wp2_with fail
 all_goals
  refine Dp (S:=(fun w'=>w'.cell? ⟨pp,2,none⟩=some (.slice (some ⟨rg,ro,none⟩) (n'+1) kr)∧w'.cell? ⟨rg,ro+n'*2,none⟩=some (.int .i64 o'.1)∧w'.cell? ⟨rg,ro+n'*2+1,none⟩=some (.int .i64 o'.2))) 17 #[false,false,false,false,false,false,false,false,false,false,false,false,false,false,false,false,false] rfl kR kR (by(try dsimp only);go_keep) (fun hHeld=> ?_);simp only[aQ,aV];refine tk 1 ?_;refine tk 2 ?_;refine tk 3 ?_;refine tk 4 ?_;refine tk 5 ?_;refine tk 6 ?_;refine tk 7 ?_;refine tk 8 ?_;refine tk 9 ?_;refine tk 10 ?_;refine tk 11 ?_;refine tk 12 ?_;refine tk 13 ?_;refine wpAnyH_ready (rs:=[0,14]) kR sI ?_;refine aR (jT rfl) (fun K hK=> ?_) (aR (jT rfl) (fun K hK=> ?_) aX)
  ·go_simp
   refine hkO hK fun hHeld=> ?_
   clear hK K;refine wpAnyH_ready (rs:=[14]) kR sI ?_;refine aR (jT rfl) (fun K hK=> ?_) aX;go_simp
   refine hkO hK fun hHeld=> ?_
   clear hK K;refine tk 15 ?_;refine tk 16 ?_;refine wpAnyH_done kR ?_ _;simp only[oz,aP,aU];clear hHeld;go_wp2_with fail;clear hw6;refine lJ 5 kR kR ?_;simp only[aQ,aV,aP,aU];repeat still_step
   refine wpStill_nil ?_;go_wp2;have e0:=LF.out.gC 0;have e1:=LF.out.gC 1;obtain⟨_,X6,R6,_⟩:=HR5b.out.act (r:=.nilIface) (en:=.returned .nilIface) ⟨rfl,FIN.out⟩;refine bodyPost_ret (v:=.tuple #[.agg #[.int .i64 o'.1,.int .i64 o'.2],.nilIface]) (by simp[e0,e1,results,ig,go_sem]) rfl (R6.wr (b:=w.heap.size) sI ?_).fin;exact((Keep.refl [w.heap.size] w7).setCell (p:=⟨w.heap.size,0,none⟩) (.inl sI) _).setCell (p:=⟨w.heap.size,1,none⟩) (.inl sI) _
  ·go_simp
   refine hkO hK fun hHeld=> ?_
   clear hK K;refine tk 0 ?_;refine tk 15 ?_;refine tk 16 ?_;refine wpAnyH_done kR ?_ _;simp only[oz,aP,aU];clear hHeld;go_wp2_with fail;clear hw6;refine lJ 5 kR kR ?_;simp only[aQ,aV,aP,aU];repeat still_step
   refine wpStill_nil ?_;go_wp2;have e0:=LF.out.gC 0;have e1:=LF.out.gC 1;obtain⟨_,X6,R6,_⟩:=HR5b.out.act (r:=.nilIface) (en:=.returned .nilIface) ⟨rfl,FIN.out⟩;refine bodyPost_ret (v:=.tuple #[.agg #[.int .i64 o'.1,.int .i64 o'.2],.nilIface]) (by simp[e0,e1,results,ig,go_sem]) rfl (R6.wr (b:=w.heap.size) sI ?_).fin;exact((Keep.refl [w.heap.size] w7).setCell (p:=⟨w.heap.size,0,none⟩) (.inl sI) _).setCell (p:=⟨w.heap.size,1,none⟩) (.inl sI) _
theorem wU (k v:Int) (hlast:p.last<4611686018427387904) (h:PoX E X F pp p w):
 Calls prog 13 #[.pointer (some ⟨pp,0,none⟩),.int .i64 k,.int .i64 v] w (EPost (kQ E pp).S X F (kI mn O e p k v).1 w (.tuple #[obV (kI mn O e p k v).2.2,kM ev (kI mn O e p k v).2.1])):=by
 have hI:=h.2.take (mn:=mn) h.ord k v;revert hI;unfold kI;by_cases hc:p.cl=true
 ·rw[if_pos hc];intro _;exact ptake_A k v h hc
 rw[if_neg hc];have hc':p.cl=false:=by simpa using hc
 by_cases hr:mG p k=false∨vQ p v=false
 ·rw[if_pos hr];intro _
  exact ptake_B k v h hc' (by unfold xR;rw[if_neg];rintro⟨a,b⟩;rcases hr with q|q<;>simp_all)
 rw[if_neg hr];have hw:mG p k=true∧vQ p v=true:=by simp only[not_or,Bool.not_eq_false] at hr;exact hr
 have hr':xR p k v=0:=by unfold xR;rw[if_pos hw]
 by_cases hW:p.W≠[]
 ·rw[if_pos hW];intro _
  exact ptake_C k v hlast h hc' hr' (List.length_pos_iff.2 hW)
 rw[if_neg hW];have hW':p.W=[]:=by simpa using hW
 obtain⟨⟨d',c,o⟩,hd⟩: ∃r,r=takeD mn O e p.d k v false:=⟨_,rfl⟩;rw[←hd];simp only;have hk:=hw.1;have hn:=hw.2;unfold mG at hk;unfold vQ at hn;simp only[decide_eq_true_eq] at hk hn;have h57:=JY (mn:=mn) (O:=O) (e:=e) (u:=false) hk.1 hk.2 hn.1 hn.2;rw[←hd] at h57;by_cases h0:c=0
 ·subst h0
  rw[if_pos rfl];intro hI;exact ptake_D k v h hc' hr' hW' hd.symm hI
 rw[if_neg h0];have h57':c=5∨c=7:=by simpa[h0] using h57
 cases hR:p.R.getLast? with
 |none=>
  intro _;exact ptake_E k v hlast h hc' hr' hW' hd.symm h57' (by simpa using hR)
 |some o'=>
  intro hI;obtain⟨hne,hx⟩:=gY.1 hR;have e2:p.R.dropLast=hne:=by rw[hx];simp
  simp only[e2] at hI ⊢;exact ptake_F k v h hc' hr' hW' hd.symm h57' hx hI
end
section
variable {pd pc pz e:Nat} {mn:Int} {O:List (List Int)} {ev:Nat→Addr} {w0:World} {E:sG pd pc pz e mn O ev w0} {X F:List Nat} {w w1 w':World} {pp bt bg:Nat} {vr vw:Value} {p p':Po}
theorem uL {e:Nat} {d:De} {l:List Ob} {i:Nat} {o:Ob} (h:l[i]?=some o):mF e d (l.take (i+1))=(lI e (mF e d (l.take i)) 0 o).1:=by
 unfold mF;rw[bR,h];simp[List.foldl_append]
end
