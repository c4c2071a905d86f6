/- Lemmas. -/
import Derived.Test.YtehhldljdakgeaaGreatDoorQb01
import Derived.Test.YtehhldljdakgeaaGreatDoorQb08
set_option linter.unusedSimpArgs false
set_option linter.unusedVariables false
set_option maxHeartbeats 16000000
set_option maxRecDepth 100000
namespace Go.Proofs.YtehhldljdakgeaaGreatDoor
open Go.RowKit Go.Maps Go.Proofs.Tryz
attribute [local go_sem ↓] aJ aK
section
open Go
section
variable {P:Program} {md:Region.Mode} {l:List Oper} {n:Nat}
def Uq (md:Region.Mode) (l:List Oper) (n:Nat):Bool:=
 decide (n<l.length)&&Region.sinkB md l.toArray n&&Region.chainB md l.toArray n&&
 ((List.range n).all fun j=>match l[j]? with
   |some o=>(o.after.all fun e=>decide (e.on<j))&&(match o.guard with|some (g,_)=>decide (g<n)|none=>true)
   |none=>false)&&
 Region.seqB md l.toArray (l.length-n) n (List.replicate n true++List.replicate (l.length-n) false).toArray
def oz (P:Program) (l:List Oper) (n:Nat) (Q:Exit→Act→World→Prop):Exit→Act→World→Prop
 | .normal,a,w=>wpList P l.toArray Q (l.drop n) a w
 |e,a,w=>Q e a w
structure tu (l:List Oper) (n:Nat) (listed L:Array Bool):Prop where
 s1:listed.size=n
 s2:L.size=l.length
 eq: ∀i,i<n→L[i]?=listed[i]?
 tl: ∀t,n≤t→t<l.length→L.getD t true=false
theorem Er {ops:Array Oper} {Q:Exit→Act→World→Prop}: ∀(f:Nat) (listed:Array Bool) (a:Act) (w:World),wpAny P md ops Q f listed a w→wpAny P md ops Q (f+1) listed a w
 |0,_,_,_,h=>⟨fun _=>h.2,fun i hi=>by rw[h.1] at hi;cases hi⟩
 |f+1,_,_,_,h=>⟨h.1,fun i hi=>wpOp_mono (fun a' w' h'=>Er f _ a' w' h') (h.2 i hi)⟩
theorem xP {ops:Array Oper} {Q:Exit→Act→World→Prop} (f k:Nat) (listed:Array Bool) (a:Act) (w:World) (h:wpAny P md ops Q f listed a w):wpAny P md ops Q (f+k) listed a w:=by
 induction k with
 |zero=>exact h
 |succ k ih=>exact Er _ _ _ _ ih
theorem A9 {Q:Exit→Act→World→Prop} (h:LetsOut (oz P l n Q)):LetsOut Q:=h
theorem Vm {o:Oper} {a:Act} {w:World} {K:Act→World→Prop} {Q:Exit→Act→World→Prop} (h:o.wp P a w K (oz P l n Q)):o.wp P a w K Q:=by
 unfold Oper.wp at*
 generalize(execOp a.eval o).run P w=r at*
 cases r with
 |ok m w'=>
  cases m<;>simp only[Oper.upon] at h ⊢ <;>first|exact h|exact Calls.mono h (fun e w'' he=>by cases e<;>exact he)
 |halt x w'=>cases x<;>simp only[Oper.upon] at h ⊢ <;>exact h
theorem tu.set {listed L:Array Bool} {i:Nat} (h:tu l n listed L) (hi:i<n):tu l n (listed.setIfInBounds i true) (L.setIfInBounds i true):=
 ⟨by simp[h.s1],by simp[h.s2],fun j hj=>by
   by_cases hij:i=j
   ·subst hij
    have h1:=h.s1;have h2:=h.s2;have h3:=h.eq i hi;by_cases hl:i<l.length
    ·simp[h1,h2,hi,hl]
    ·rw[eO om] at h3
     rw[iY om] at h3;cases h3
   ·simp[Array.getElem?_setIfInBounds_ne hij,h.eq j hj],fun t ht ht'=>by
   rw[getD_set_ne true om];exact h.tl t ht ht'⟩
theorem tu.getD {listed L:Array Bool} {i:Nat} (h:tu l n listed L) (hi:i<n) (d:Bool):L.getD i d=listed.getD i d:=by
 have:=h.eq i hi;simp[this]
theorem Hq {listed L:Array Bool} (hB:Uq md l n=true) (h:tu l n listed L) {i:Nat} (hi:i<n):
 i∈Region.ready md l.toArray L↔i∈Region.ready md (l.take n).toArray listed:=by
 simp only[Uq,bV,decide_eq_true_eq] at hB;obtain⟨⟨⟨⟨hn,_⟩,_⟩,hA⟩,_⟩:=hB;have hAi:=eF.1 hA i (fM.2 hi);rw[mem_ready,mem_ready,h.getD hi true];have e1:(l.take n).toArray[i]?=l.toArray[i]?:=by simp[hi]
 rw[e1];refine and_congr_right fun _=>exists_congr fun o=>and_congr_right fun ho=> ?_
 have ho':l[i]?=some o:=by simpa using ho
 rw[ho'] at hAi;simp only[bV] at hAi;have hE:=fJ.1 hAi.1;exact forall_congr' fun e=>forall_congr' fun he=>forall_congr' fun _=>by
  rw[h.getD (by have:=of_decide_eq_true (hE e he);omega)]
theorem T9 {o:Oper} {tmps:Array Value} (hB:Uq md l n=true) {i:Nat} (hi:i<n) (ho:l[i]?=some o):
 Region.wanted o (yielded (l.take n).toArray tmps)=Region.wanted o (yielded l.toArray tmps):=by
 simp only[Uq,bV,decide_eq_true_eq] at hB;obtain⟨⟨⟨⟨hn,_⟩,_⟩,hA⟩,_⟩:=hB;have hAi:=eF.1 hA i (fM.2 hi);rw[ho] at hAi;simp only[bV] at hAi;unfold Region.wanted;cases hg:o.guard with
 |none=>rfl
 |some p=>
  obtain⟨g,b⟩:=p;have hgn:g<n:=by
   have:=hAi.2;rw[hg] at this;simpa using this
  have e1:yielded (l.take n).toArray tmps g=yielded l.toArray tmps g:=by unfold yielded;simp[hgn]
  simp only[e1]
theorem Qb {listed L:Array Bool} (h:tu l n listed L) (hn:n<l.length) (ha: ∀i,i<n→listed.getD i false=true):L=(List.replicate n true++List.replicate (l.length-n) false).toArray:=by
 apply Array.ext
 ·simp[h.s2];omega
 ·intro i h1 h2
  have hl:i<l.length:=by have:=h.s2;omega
  by_cases hi:i<n
  ·have e1:=h.eq i hi
   have e2:=ha i hi;have hs:i<listed.size:=by rw[h.s1];exact hi
   rw[iY h1,iY hs] at e1;have e3:listed[i]=true:=by simpa[hs] using e2
   have e4:=aO e1;rw[e4,e3];simp[List.getElem_append,hi]
  ·have e1:=h.tl i om hl
   have e3:L[i]=false:=by simpa[h1] using e1
   rw[e3];simp[List.getElem_append,hi]
theorem cut_all {listed L:Array Bool} (hB:Uq md l n=true) (h:tu l n listed L) (he:Region.ready md (l.take n).toArray listed=[]): ∀i,i<n→listed.getD i false=true:=by
 simp only[Uq,bV,decide_eq_true_eq] at hB;obtain⟨⟨⟨⟨hn,_⟩,_⟩,hA⟩,_⟩:=hB;intro i;induction i using Nat.strongRecOn with
 |_ i ih=>
  intro hi;cases hl:listed.getD i false with
  |true=>rfl
  |false=>
   have hAi:=eF.1 hA i (fM.2 hi);have hil:i<l.length:=om;rw[aA hil] at hAi;simp only[bV] at hAi;have hE:=fJ.1 hAi.1;have:i∈Region.ready md (l.take n).toArray listed:=mem_ready.2 ⟨getD_in (by rw[h.s1];exact hi) hl,l[i],by simp[hi,hil],fun e he _=>by
    have:=of_decide_eq_true (hE e he);exact ih e.on this om⟩
   rw[he] at this;cases this
theorem cut_go {Q:Exit→Act→World→Prop} {listed L:Array Bool} {a:Act} {w:World} (hB:Uq md l n=true) (h:tu l n listed L) (he:Region.ready md (l.take n).toArray listed=[])
 (hQ:wpList P l.toArray Q (l.drop n) a w):wpAny P md l.toArray Q (l.drop n).length L a w:=by
 have ha:=cut_all hB h he;simp only[Uq,bV,decide_eq_true_eq] at hB;obtain⟨⟨⟨⟨hn,_⟩,_⟩,_⟩,hseq⟩:=hB;have e:=Qb h hn ha;subst e;exact wpAny_of_seq (l.drop n) n _ a w (fun j=>by simp[cO]) (by simpa using hseq) hQ
theorem cut_any {Q:Exit→Act→World→Prop} (hB:Uq md l n=true):
 ∀(f:Nat) (listed L:Array Bool) (a:Act) (w:World),tu l n listed L→HeadInv md l.toArray n L→
  wpAny P md (l.take n).toArray (oz P l n Q) f listed a w→wpAny P md l.toArray Q ((l.drop n).length+f) L a w:=by
 have hB':=hB;simp only[Uq,bV,decide_eq_true_eq] at hB';obtain⟨⟨⟨⟨hn,hs⟩,hc⟩,hA⟩,_⟩:=hB';intro f;induction f with
 |zero=>
  intro listed L a w hr inv h;exact cut_go hB hr h.1 h.2
 |succ f ih=>
  intro listed L a w hr inv h;by_cases he:Region.ready md (l.take n).toArray listed=[]
  ·exact xP _ (f+1) _ _ _ (cut_go hB hr he (h.1 he))
  ·obtain⟨i0,hi0⟩:=List.exists_mem_of_ne_nil _ he
   have hi0n:i0<n:=by
    obtain⟨_,o,ho,_⟩:=mem_ready.1 hi0;have:=(iR.1 ho).1;simp at this;omega
   have hun:L.getD i0 true=false:=by rw[hr.getD hi0n];exact(mem_ready.1 hi0).1
   have hin: ∀i∈Region.ready md l.toArray L,i<n:=fun i hi=>by
    rcases dU i n with q|q
    ·exact q
    ·exact absurd hi (tail_waits hs hc (by simpa using hn) inv _ i0 rfl hi0n hun i q)
   refine⟨fun h0=> ?_,fun i hi=> ?_⟩
   ·have:=(Hq hB hr hi0n).2 hi0
    rw[h0] at this;cases this
   ·have hin':=hin i hi
    have h1:=h.2 i ((Hq hB hr hin').1 hi);have hil:i<l.length:=om;have e1:(l.take n).toArray[i]?=some l[i]:=by simp[hin',hil]
    have e2:l.toArray[i]?=some l[i]:=by simp[hil]
    have hst: ∀a' w',wpAny P md (l.take n).toArray (oz P l n Q) f (listed.setIfInBounds i true) a' w'→wpAny P md l.toArray Q ((l.drop n).length+f) (L.setIfInBounds i true) a' w':=
     fun a' w' h'=>ih _ _ a' w' (hr.set hin') (inv.set hi hin') h'
    unfold wpOp at h1 ⊢;simp only[e1] at h1;simp only[e2];rw[T9 hB hin' (aA hil)] at h1;split
    ·rename_i hw
     simp only[hw,if_true] at h1;rcases h1 with h1|h1
     ·exact .inl (Oper.wp_mono hst (Vm h1))
     ·exact .inr ⟨h1.1,A9 h1.2⟩
    ·rename_i hw
     simp only[hw] at h1;exact hst _ _ h1
theorem kE {S:World→Prop} {id:Nat} {Q:Exit→Act→World→Prop} {a:Act} {w:World} (n:Nat) (L:Array Bool) (hL:L=(List.replicate n false).toArray) (hm:P.follows .mixedOrders=true) (hB:Uq .any l n=true) (hS:S w.drew)
 (h:S w.drew→wpAnyH P .any (l.take n).toArray (oz P l n Q) S n L a w.drew):(Code.region id l.toArray true).wp P Q a w:=by
 have hB':=hB;simp only[Uq,bV,decide_eq_true_eq] at hB';obtain⟨⟨⟨⟨hn,hs⟩,hc⟩,hA⟩,_⟩:=hB';refine wp_region_any hm ?_;have hsz:(l.take n).toArray.size=n:=by simp;omega
 have h0:=h hS;rw[hL] at h0;have h1:=wpAny_of_held _ _ _ _ h0;have inv0:HeadInv .any l.toArray n (Array.replicate l.toArray.size false):=
  ⟨sI,fun j oj _ hl=>(by rw[getD_replicate_false] at hl;cases hl),fun t _ ht=>getD_in (by simpa using ht) (getD_replicate_false _ _)⟩
 have rel0:tu l n (List.replicate n false).toArray (Array.replicate l.toArray.size false):=
  ⟨sI,sI,fun i hi=>by
    have h1:i<l.length:=om;simp[h1,hi,Array.getElem?_replicate],fun t _ ht=>getD_in (by simpa using ht) (getD_replicate_false _ _)⟩
 have h2:=cut_any (Q:=Q) hB _ _ _ a w.drew rel0 inv0 h1;have e:(l.drop n).length+n=l.toArray.size:=by simp;omega
 rw[e] at h2;exact h2
theorem Qc {S:World→Prop} {Q:Exit→Act→World→Prop} {i:Nat} {oi:Oper} {v:Value} {fuel:Nat} {listed:Array Bool} {a:Act} {w:World} (hi:l[i]?=some oi)
 (hs:Region.noSelect l.toArray=true) (hf:Region.free md l.toArray listed i=true) (hr:(Region.ready md l.toArray listed).contains i=true)
 (hQ: ∀c a w,Q (.panic c) (a.put oi.dst v) w→Q (.panic c) a w) (hy:YieldsIf P l.toArray S oi v a) (hS:S w)
 (h:wpAnyH P md l.toArray Q S fuel (listed.setIfInBounds i true) (a.put oi.dst v) w):wpAnyH P md l.toArray Q S (fuel+1) listed a w:=
 wpAnyH_take (by simpa using hi) hs hf hr hQ hy hS h
theorem ctk {S:World→Prop} {Q:Exit→Act→World→Prop} {i:Nat} {oi:Oper} {v:Value} {fuel:Nat} {listed:Array Bool} {a:Act} {w:World} (hi:l[i]?=some oi)
 (hQ: ∀c a w,Q (.panic c) (a.put oi.dst v) w→Q (.panic c) a w) (hy:YieldsIf P l.toArray S oi v a)
 (h:wpAnyH P md l.toArray Q S fuel (listed.setIfInBounds i true) (a.put oi.dst v) w) (hs:Region.noSelect l.toArray=true:=by kernel_rfl) (hf:Region.free md l.toArray listed i=true:=by kernel_rfl) (hr:(Region.ready md l.toArray listed).contains i=true:=by kernel_rfl) (hS:S w:=by assumption):wpAnyH P md l.toArray Q S (fuel+1) listed a w:=
 Qc hi hs hf hr hQ hy hS h
theorem pA {α:Type} (l:List α) (i:Nat) (x:α):l.toArray.setIfInBounds i x=(l.set i x).toArray:=List.setIfInBounds_toArray ..
theorem pZ {α:Type} (a:α) (l:List α) (x:α):(a::l).set 0 x=x::l:=List.set_cons_zero ..
theorem pS {α:Type} (a:α) (l:List α) (i:Nat) (x:α):(a::l).set (i+1) x=a::l.set i x:=jg ..
theorem tk {S:World→Prop} {Q:Exit→Act→World→Prop} {oi:Oper} {v:Value} {fuel:Nat} {listed:Array Bool} {a:Act} {w:World} {H:Prop} (i:Nat) (h:H) (hi:l[i]?=some oi:=by rfl)
 (hQ: ∀c a w,Q (.panic c) (a.put oi.dst v) w→Q (.panic c) a w:=by exact fun _ _ _ h=>h) (hg:Region.wanted oi (yielded l.toArray a.tmps)=true:=by rfl) (hy: ∀w,S w→(execOp a.eval oi).run P w= .ok (.value v) w:=by(intro w hSw;(try dsimp only at hSw);go_simp<;>with_reducible rfl))
 (hs:Region.noSelect l.toArray=true:=by kernel_rfl) (hf:Region.free md l.toArray listed i=true:=by kernel_rfl) (hr:(Region.ready md l.toArray listed).contains i=true:=by kernel_rfl) (hS:S w:=by assumption)
 (e:wpAnyH P md l.toArray Q S fuel (listed.setIfInBounds i true) (a.put oi.dst v) w=H:=by(try simp only[Act.put,pA,pZ,pS]);exact rfl):wpAnyH P md l.toArray Q S (fuel+1) listed a w:=
 Qc hi hs hf hr hQ (Or.inl ⟨hg,hy⟩) hS (e.mpr h)
theorem hkO {ops:Array Oper} {S:World→Prop} {Q:Exit→Act→World→Prop} {fuel:Nat} {ls:Array Bool} {K:Act→World→Prop} {a:Act} {w:World} {H:Prop} (hK:Shut (∀a w,S w→(S w→wpAnyH P md ops Q S fuel ls a w)→K a w)) (f:S w→H) (s:S w:=by(try dsimp only);go_keep)
 (e:wpAnyH P md ops Q S fuel ls a w=H:=by(try simp only[Act.put,pA,pZ,pS]);exact rfl):K a w:=hK.out a w s fun x=>e.mpr (f x)
theorem jT {l:List Oper} {i:Nat} {o:Oper} (ho:l[i]?=some o):l.toArray[i]?=some o:=by simpa using ho
end
end
theorem snew_ok (pz e:Nat) (w:World) (e1:1≤e) (e2:e≤64):
 Calls prog 46 #[.pointer (some ⟨pz,0,none⟩),.int .i64 e] w fun r w'=>r= .returned (.tuple #[.pointer (some ⟨w.heap.size,0,none⟩),.nilIface])∧w'=w.alloc (.cells #[.pointer (some ⟨pz,0,none⟩),.int .i64 e,.slice none 0 0] 186):=by
 have d1:decide ((e:Int)<1)=false:=dQf om;have d2:decide ((64:Int)<e)=false:=dQf om;have d3:decide (64<e)=false:=dQf om;go_in
 go_wp2;go_ret2
 exact⟨rfl,rfl⟩
section
variable {B:Nat} {ev:Nat→Addr} {pc pz e:Nat} {mn lw hi:Int} {O:List (List Int)} {X:List Nat} {vs:Value} {A:SA} {c:Ca} {w:World}
theorem cnode_ok (h:CS B w pc pz mn lw hi O e X vs A c) (v:Nat) (hv:v<c.L.length):
 Calls prog 109 #[.pointer (some ⟨pc,0,none⟩),.int .i64 v] w fun r w'=>r= .returned .nilIface∧Below w.heap.size w w':=by
 obtain⟨x,hx⟩: ∃x,c.L[v]?=some x:=⟨c.L[v],aA _⟩;have FR:=ah (Q9 pz mn lw hi O c.L v x w h.z.toB hx);have c0:=h.ch.c.gC 0;have cl:=h.ch.c.lt;clear h hx;go_in
 go_wp2_with fail;refine FR.out.mono ?_;rintro r w1 ⟨rfl,hb1⟩;go_wp2;go_ret;exact⟨rfl,hb1⟩
theorem Vn (hE:Ap B ev w) (h:CS B w pc pz mn lw hi O e X vs A c) (v:Int) (hv:v<0∨(c.L.length:Int)≤v):
 Calls prog 109 #[.pointer (some ⟨pc,0,none⟩),.int .i64 v] w fun r w'=>r= .returned (kM ev 2)∧Below w.heap.size w w':=by
 have FR:=ah (H9 pz mn lw hi O c.L v w hE h.z.toB h.l0 hv);have c0:=h.ch.c.gC 0;have cl:=h.ch.c.lt;have e1:kM ev 2= .iface 336 (.pointer (some (ev 2))):=rfl;rw[e1] at FR ⊢;clear h hv hE e1;go_in
 go_wp2_with fail;refine FR.out.mono ?_;rintro r w1 ⟨rfl,hb1⟩;go_wp2;go_ret;exact⟨rfl,hb1⟩
def Qd (B:Nat) (ev:Nat→Addr) (pc pz:Nat) (mn lw hi:Int) (O:List (List Int)) (e:Nat) (X:List Nat) (vs:Value) (A:SA) (c:Ca) (w:World) (L':List Nd) (q:Nat) (r:Ending) (w':World):Prop:=
 r= .returned (.tuple #[.pointer none,kM ev q])∧CS B w' pc pz mn lw hi O e X vs A ⟨L',c.C⟩∧Keep (ys c.L) w w'
theorem cgrow_no (v:Int) (u:Bool) (hE:Ah B ev w) (h:CS B w pc pz mn lw hi O e X vs A c) (L':List Nd) (q:Nat) (nd pg k:Int) (ht:lQ mn O c.L v 0 u=(L',q+1,(nd,pg,k))):
 Calls prog 110 #[.pointer (some ⟨pc,0,none⟩),.int .i64 v,.bool u] w (Qd B ev pc pz mn lw hi O e X vs A c w L' (q+1)):=by
 have TK:=Hf pz mn lw hi O c.L v 0 u w hE h.z.toB h.l0;have SZ:=ah (tQ mn O c.L v 0 u);rw[ht] at TK SZ;have HT:=ah TK;have HH:=ah h;have c0:=h.ch.c.gC 0;have cl:=h.ch.c.lt;obtain⟨vv,hvv⟩:=eY (ev (q+1));have e1:kM ev (q+1)= .iface 336 (.pointer (some vv)):=by rw[hvv];rfl
 unfold Qd;rw[e1];have E1:=ah e1;clear h TK e1 hvv ht;go_in
 go_wp2_with fail;refine HT.out.mono ?_;rintro r w1 ⟨hr,hz1,hk1⟩;simp only[E1.out,plV] at hr;subst hr;have H1:=ah (HH.out.zone hk1 hz1 SZ.out);have HK1:=ah hk1;have z1:=hk1.size;clear hz1 hk1;go_wp2;go_ret2
 exact⟨rfl,H1.out.below jY,HK1.out.step jY⟩
theorem yN {P:Program} {ops:Array Oper} {o:Oper} {a:Act} {w:World} {K:Act→World→Prop} {Q:Exit→Act→World→Prop} {E:Prop}
 (hg:o.guard=none) (t:TypeId) (x y:Operand) (hop:o.op=Op.makeSlice t x y) (u v:Value) (hx:a.eval x=u) (hy:a.eval y=v) {v':Value} {w':World} (hr:(Instr.makeSlice t u v).run P w= .ok v' w') (hK:K (a.put o.dst v') w'):
 if Region.wanted o (yielded ops a.tmps)=true then Oper.wp P o a w K Q else E:=by
 have hw:Region.wanted o (yielded ops a.tmps)=true:=by simp[Region.wanted,hg]
 rw[if_pos hw];unfold Oper.wp;simp[execOp,hop,hx,hy,hr,Result.andThen];exact hK
theorem Es (e:Nat):madeCells (Value.bool false).cells (kL e)=(bools (kU e)).toArray:=by
 unfold madeCells bools kU;apply Array.ext
 ·simp[Value.cells]
 ·intro i h1 h2
  simp[Value.cells,Nat.mod_one]
def GrowYes (B:Nat) (pc pz:Nat) (mn lw hi:Int) (O:List (List Int)) (e:Nat) (X:List Nat) (vs:Value) (A:SA) (c:Ca) (w:World) (L':List Nd) (s:Sl) (r:Ending) (w':World):Prop:=
 ∃p X' v' A',r= .returned (.tuple #[.pointer (some ⟨p.1,0,none⟩),.nilIface])∧CS B w' pc pz mn lw hi O e X' v' A' ⟨L',wC c.C s⟩∧A'[vZ s.nd s.pg c.C]?=some p∧Keep (cay pc vs A++ys c.L) w w'∧(∀x∈X,x∈X')∧(∀x∈X',x∈X∨w.heap.size≤x)∧∀y∈cay pc v' A',y∈cay pc vs A∨w.heap.size≤y
theorem Vo (v:Int) (u:Bool) (hE:Ah B ev w) (h:CS B w pc pz mn lw hi O e X vs A c) (hI:uR e c) (hB:B≤w.heap.size) (L':List Nd) (nd pg:Int) (ht:lQ mn O c.L v 0 u=(L',0,(nd,pg,0))):
 Calls prog 110 #[.pointer (some ⟨pc,0,none⟩),.int .i64 v,.bool u] w (GrowYes B pc pz mn lw hi O e X vs A c w L' ⟨nd,pg,kU e⟩):=by
 obtain⟨qv,kv,evs,_⟩:=h.ch.form;subst evs;have TK:=Hf pz mn lw hi O c.L v 0 u w hE h.z.toB h.l0;have SZ:=ah (tQ mn O c.L v 0 u);rw[ht] at TK SZ;have HT:=ah TK;have HH:=ah h;have c0:=h.ch.c.gC 0;have cl:=h.ch.c.lt;have HI:=ah hI;have e1:=hI.e1;have e2:=hI.e2;clear h TK ht hI;go_in
 go_wp2_with fail;refine HT.out.mono ?_;rintro r w1 ⟨hr,hz1,hk1⟩;simp only[plV,kM] at hr;subst hr;have H1:=HH.out.zone hk1 hz1 SZ.out;have HK1:=ah hk1;have z1:=hk1.size;have k1:=H1.ch.c.gC 1;have k2:=H1.ch.c.gC 2;have kl:=H1.ch.c.lt;have H1':=ah H1;clear hz1 hk1 H1 c0 cl;go_wp2_with fail;obtain⟨W2,hW2⟩:=eY (w1.alloc (.cells #[.int .i64 nd,.int .i64 pg,.int .i64 0] 215));rw[←hW2];have P2:jR W2 w1.heap.size [.int .i64 nd,.int .i64 pg,.int .i64 0]:=by rw[hW2];exact jR.mk_ w1 [.int .i64 nd,.int .i64 pg,.int .i64 0] 215 rfl
 have b2:Below w1.heap.size w1 W2:=by rw[hW2];exact jY
 have s2:W2.heap.size=w1.heap.size+1:=by rw[hW2];simp
 clear hW2;have p0:=P2.gC 0;have p1:=P2.gC 1;have p2:=P2.gC 2;have pl:=P2.lt;have g1:W2.cell? ⟨pc,1,none⟩=some (.int .i64 e):=(b2.cell (p:=⟨pc,1,none⟩) kl).trans k1;have g2:W2.cell? ⟨pc,2,none⟩=some (.slice qv c.C.length kv):=(b2.cell (p:=⟨pc,2,none⟩) kl).trans k2;have gl:pc<W2.heap.size:=om;have en0: ¬((e:Int)=0):=om;have en1: ¬(e=0):=om;have hq0:(64:Int) / (e:Int)=(kL e:Int):=by unfold kL;rw[Int.natCast_ediv];rfl
 have hq:(64:Int).tdiv (e:Int)=(kL e:Int):=by rw[fI om];exact hq0
 have r64:kL e≤64:=by unfold kL;exact dW _ _
 have hwr:IntKind.i64.wrap ((kL e:Nat):Int)=(kL e:Int):=aY _ om;have MK:Hid (∀W:World,(Instr.makeSlice 216 (.int .i64 (kL e:Nat)) (.int .i64 (kL e:Nat))).run prog W= .ok (.slice (some ⟨W.heap.size,0,none⟩) (kL e) (kL e)) (W.alloc (.cells (bools (kU e)).toArray 4))):=fun W=>by
  obtain⟨i0,hi0,hz0,hzs,hzb⟩:=info_parts (P:=prog) (e:=4) (z:=.bool false) (size:=1) (bytes:=1) kR;have:=run_make (P:=prog) W 216 4 i0 _ Tryz.underlying216 hi0 hz0 .i64 .i64 (kL e:Nat) (kL e:Nat) om (bZ _) (by rw[hzb];omega) om;rw[this,hzs];simp only[bS,Nat.mul_one];have em:madeCells (Value.bool false).cells (kL e)=(bools (kU e)).toArray:=Es e;rw[em]
 refine kE (S:=(fun w'=>w'.cell? ⟨w1.heap.size,0,none⟩=some (.int .i64 nd)∧w'.cell? ⟨w1.heap.size,1,none⟩=some (.int .i64 pg)∧w'.cell? ⟨w1.heap.size,2,none⟩=some (.int .i64 0)∧w'.cell? ⟨pc,1,none⟩=some (.int .i64 e))) 9 #[false,false,false,false,false,false,false,false,false] rfl kR kR (by(try dsimp only);go_keep) (fun hHeld=> ?_);simp only[aQ,aV];refine tk 0 ?_;refine tk 1 ?_;refine tk 2 ?_;refine tk 3 ?_;refine tk 4 ?_;refine tk 5 ?_;refine wpAnyH_ready (rs:=[6]) kR sI ?_;refine aR (jT rfl) (fun K hK=> ?_) aX;refine yN rf 216 (.tmp 31) (.tmp 31) rf _ _ rf rf (MK.out _) ?_;refine hkO hK fun hHeld=> ?_
 clear hK K;refine tk 7 ?_;refine wpAnyH_ready (rs:=[8]) kR sI ?_;refine aR (jT rfl) (fun K hK=> ?_) aX;go_simp
 refine hkO hK fun hHeld=> ?_
 clear hK K;refine wpAnyH_done kR ?_ _;simp only[oz,aP,aU];go_wp2_with fail;have nl:(kU e).length=kL e:=by unfold kU;simp
 obtain⟨W3,hW3⟩:=eY (((W2.alloc (.cells (bools (kU e)).toArray 4)).alloc (.cells #[.int .i64 nd,.int .i64 pg,.int .i64 0,.slice (some ⟨w1.heap.size+1,0,none⟩) (kL e) (kL e),.int .i64 0] 218)).drew);rw[←hW3];have LG:jR W3 (w1.heap.size+1) (bools (kU e)):=by
  rw[hW3];exact((jR.mk_ W2 (bools (kU e)) 4 s2).past _).mP
 have LS:jR W3 (w1.heap.size+1+1) [.int .i64 nd,.int .i64 pg,.int .i64 0,.slice (some ⟨w1.heap.size+1,0,none⟩) (kL e) (kL e),.int .i64 0]:=by
  rw[hW3];exact(jR.mk_ (W2.alloc (.cells (bools (kU e)).toArray 4)) [.int .i64 nd,.int .i64 pg,.int .i64 0,.slice (some ⟨w1.heap.size+1,0,none⟩) (kL e) (kL e),.int .i64 0] 218 (by simp[s2])).mP
 have b3:Below W2.heap.size W2 W3:=by rw[hW3];exact jY
 have s3:W3.heap.size=w1.heap.size+1+1+1:=by rw[hW3];simp[s2]
 have SB3:=ah (show uX W3 (w1.heap.size+1+1,w1.heap.size+1) ⟨nd,pg,kU e⟩ from⟨by
  have e0:qm ⟨nd,pg,kU e⟩ (w1.heap.size+1)=[.int .i64 nd,.int .i64 pg,.int .i64 0,.slice (some ⟨w1.heap.size+1,0,none⟩) (kL e) (kL e),.int .i64 0]:=by
   have m0:kK ⟨nd,pg,kU e⟩=0:=xC e;unfold qm;rw[m0];simp[nl]
  show jR W3 (w1.heap.size+1+1) (qm ⟨nd,pg,kU e⟩ (w1.heap.size+1));rw[e0];exact LS,LG⟩)
 have B13:=ah (show Below w1.heap.size w1 W3 from b2.trans (b3.mono om));have q0:=(P2.go b3).gC 0;have q1:=(P2.go b3).gC 1;have q2:=(P2.go b3).gC 2;have ql:=(P2.go b3).lt;have x2:W3.cell? ⟨pc,2,none⟩=some (.slice qv c.C.length kv):=(b3.cell (p:=⟨pc,2,none⟩) gl).trans g2;have xl:pc<W3.heap.size:=om;obtain⟨i,hi⟩:=eY (vZ nd pg c.C);have hil:i≤c.C.length:=by rw[hi];exact zH _ _ _
 have few:=HI.out.few;have LA:=H1'.out.ch.len;have BS:Hid (∀W,Below W3.heap.size W3 W→Calls prog 136 #[.slice qv c.C.length kv,.agg #[.int .i64 nd,.int .i64 pg,.int .i64 0],.func (.func 137) #[] #[]] W fun r w'=>r= .returned (.tuple #[.int .i64 i,.bool (hitS nd pg c.C)])∧Below W.heap.size W w'):=fun W b=>by
  rw[hi];exact SY nd pg W (H1'.out.ch.below (B13.out.trans (b.mono om))) HI.out.srt few
 have IN:Hid (∀W vb,Below W3.heap.size W3 W→Row1 W vb 211 [.pointer (some ⟨w1.heap.size+1+1,0,none⟩)]→W3.heap.size≤vb→Calls prog 139 #[.slice qv c.C.length kv,.int .i64 i,.slice (some ⟨vb,0,none⟩) 1 1] W (wO B (.slice qv c.C.length kv) (lW A) i (.pointer (some ⟨w1.heap.size+1+1,0,none⟩)) W)):=fun W vb b hr hvb=>by
  have hc:=H1'.out.ch.below (B13.out.trans (b.mono om));have el:c.C.length=(lW A).length:=by rw[sj,LA]
  have ho:W.ownsRow B 211 1 (.slice qv c.C.length kv) (lW A).length (lW A):=by rw[←el];exact hc.row
  rw[el] at ho;rw[el];refine sins_ok (.slice qv (lW A).length kv) i (lW A) _ vb W ho (by rw[←el];exact hil) (BJ A) rfl (by rw[←el];omega) hr (fun q=> ?_) (by have:=b.size;have:=HK1.out.size;omega);rw[←el] at q;have:=(H1'.out.ch.lim vb (ak _ (av _ q))).2;omega
 have HIP:=ah hi;have S3:=ah s3;clear s3 P2 p0 p1 p2 pl g1 g2 gl en0 en1 hq0 hq hwr MK b2 b3 LG LS hW3 k1 k2 kl hi hHeld nl r64;refine kG kR kR ?_;repeat(go_big_quiet_step (((go_at_call 136;exact Calls.behind (BS.out _ (Behind.h _))))))
 refine wpQuiet_nil ?_;intro w4 hw';have hb4:=lN hw';clear hw';obtain⟨c4,f4⟩:=zy hb4;have z4:=hb4.size;try simp at z4 c4 f4
 have B14:=ah (B13.out.trans (hb4.mono (by have:=S3.out;omega)));have HB4:=ah hb4;have HC4:=ah (H1'.out.ch.below B14.out);have y2:=HC4.out.c.gC 2;have yf:=HC4.out.c.f 2 sI;have yl:=HC4.out.c.lt;have S4:=ah z4;have SB4:=ah (SB3.out.keep (Keep.of (S:=[]) hb4) sI sI);clear q0 q1 q2 ql x2 xl z4 hb4;go_wp2_with fail;obtain⟨W5,hW5⟩:=eY (w4.alloc (.cells #[.pointer (some ⟨w1.heap.size+1+1,0,none⟩)] 211));rw[←hW5];have R5:Row1 W5 w4.heap.size 211 [.pointer (some ⟨w1.heap.size+1+1,0,none⟩)]:=⟨_,by rw[hW5];exact World.alloc_heap_new w4 _,rfl⟩;have b5:Below w4.heap.size w4 W5:=by rw[hW5];exact jY
 clear hW5;have HB5:=ah b5;refine(IN.out W5 w4.heap.size (HB4.out.trans (b5.mono (by have:=S4.out;omega))) R5 (by have:=S4.out;omega)).mono ?_;rintro r w6 ⟨q6,k6,rfl,hown6,hk6,hv6⟩;have HC5:=HC4.out.below b5;have hpv:pc∉jS (.slice qv c.C.length kv):=fun q=>(aS.1 HC5.nd).1 (av _ q)
 have C6:=HC5.c.keep hk6 hpv;have u2:=C6.gC 2;have uf:=C6.f 2 sI;have ul:=C6.lt;have HO6:=ah hown6;have HK6:=ah hk6;have HV6:=ah hv6;have HC5':=ah HC5;clear hown6 hk6 hv6 HC5 C6 R5 b5 y2 yf yl hpv;go_wp2;go_ret2
 have el:(lW A).length=c.C.length:=by rw[sj,LA]
 have s3:=S3.out;have s4:=S4.out;have zk:=HK1.out.size;have own6:=HO6.out;have v6:=HV6.out;rw[←Hl A i (w1.heap.size+1+1,w1.heap.size+1)] at own6;simp only[el] at own6 v6 ⊢;have lmc:=H1'.out.ch.lim;have lmz:=H1'.out.z.b.lim;obtain⟨n1,n2,n3⟩:=HC5'.out.ins (w1:=w6) (w':=w6.setCell ⟨pc,2,none⟩ (.slice q6 (c.C.length+1) k6)) (p:=(w1.heap.size+1+1,w1.heap.size+1)) (i:=i) (s:=⟨nd,pg,kU e⟩) (n:=0) hil HK6.out own6 rfl (SB4.out.keep (Keep.of (S:=[]) HB5.out) sI sI) (fun q=>by have:=(lmc _ q).2;omega) (fun q=>by have:=(lmc _ q).2;omega) sI (by show B≤_;omega) (by show B≤_;omega) v6;have z5:=HB5.out.size;refine⟨(w1.heap.size+1+1,w1.heap.size+1),_,_,_,rfl,⟨?_,by unfold wC;rw[←HIP.out];exact n1,fun y hy=> ?_,H1'.out.l0⟩,?_,?_,?_,?_,?_⟩
 ·have zA:=H1'.out.z.more (Y:=(w1.heap.size+1+1)::(w1.heap.size+1)::X) (fun x hx=>by simp[hx]) (fun y hy=>by
   simp at hy;rcases hy with rfl|rfl|hy
   ·exact .inr om
   ·exact .inr om
   ·exact .inl hy)
  have zB:=zA.below (B14.out.trans (HB5.out.mono om));have zC:=zB.more (Y:=(w1.heap.size+1+1)::(w1.heap.size+1)::(jS (.slice q6 (c.C.length+1) k6)++X)) (fun x hx=>by
   simp at hx ⊢;rcases hx with h|h|h
   ·simp[h]
   ·simp[h]
   ·simp[h]) (fun y hy=>by
   simp only[aB,aD] at hy ⊢;rcases hy with h|h|h|h
   ·exact .inl (.inl h)
   ·exact .inl (.inr (.inl h))
   ·rcases v6 y h with t|t
    ·exact .inl (.inr (.inr (H1'.out.ch.mem y (ak _ (av _ t)))))
    ·exact .inr t
   ·exact .inl (.inr (.inr h)))
  exact zC.keep n2 (fun s hs=>.inl ⟨by
   have:s∈X:=H1'.out.ch.mem s (by
    rcases aB.1 hs with t|t
    ·subst t;exact aG ..
    ·exact ak _ (av _ t))
   simp[this],H1'.out.ne s (by
    rcases aB.1 hs with t|t
    ·subst t;exact aG ..
    ·exact ak _ (av _ t))⟩)
 ·intro q
  have ql:y<w1.heap.size:=(lmz y q).2;rcases n3 y (by rw[HIP.out] at hy ⊢;exact hy) with t|t|t|t
  ·exact H1'.out.ne y t q
  ·simp at t;omega
  ·simp at t;omega
  ·omega
 ·show(A.take i++_::A.drop i)[vZ nd pg c.C]?=_
  have la:i≤A.length:=by have:A.length=c.C.length:=LA;omega
  rw[←HIP.out,yh la i];simp
 ·refine Keep.then (b:=W5) ((HK1.out.mono (fun y q=>aj _ q)).step (B14.out.trans (HB5.out.mono om))) (n2.mono (fun y q=>av _ ?_))
  rcases aB.1 q with t|t
  ·subst t;exact aG ..
  ·exact ak _ (av _ t)
 ·intro x hx
  simp[hx]
 ·intro x hx
  simp only[aB,aD] at hx;rcases hx with h|h|h|h
  ·exact .inr om
  ·exact .inr om
  ·rcases v6 x h with t|t
   ·exact .inl (H1'.out.ch.mem x (ak _ (av _ t)))
   ·exact .inr om
  ·exact .inl h
 ·intro y hy
  rcases n3 y hy with t|t|t|t
  ·exact .inl t
  ·exact .inr (by simp at t;omega)
  ·exact .inr (by simp at t;omega)
  ·exact .inr om
end
theorem Av {v:Int} {C:List Sl} {i:Nat} {s:Sl} (hs:C[i]?=some s) (h: ¬(s.nd=v∧kK s<s.T.length)):oh v C (i+1)=oh v C i:=by
 show(match C[i]? with|none=>_|some s=>_)=_;rw[hs];simp only[if_neg h]
theorem Hr {v:Int} {C:List Sl} {i:Nat} {s:Sl} (hs:C[i]?=some s) (h:s.nd=v∧kK s<s.T.length) (hb:oh v C i=none):oh v C (i+1)=some i:=by
 show(match C[i]? with|none=>_|some s=>_)=_;rw[hs];simp only[if_pos h,hb]
theorem Et {v:Int} {C:List Sl} {i m:Nat} {s z:Sl} (hs:C[i]?=some s) (h:s.nd=v∧kK s<s.T.length) (hb:oh v C i=some m) (hz:C[m]?=some z):oh v C (i+1)=if kK z<kK s then some i else some m:=by
 show(match C[i]? with|none=>_|some s=>_)=_;rw[hs];simp only[if_pos h,hb,yJ hz]
def Dj (A:SA) (b:Option Nat):Value:=match b with
 |none=>.pointer none
 |some m=>match A[m]? with|some p=>.pointer (some ⟨p.1,0,none⟩)|none=>.pointer none
theorem qG {A:SA} {m:Nat} {p:Nat×Nat} (h:A[m]?=some p):Dj A (some m)= .pointer (some ⟨p.1,0,none⟩):=by unfold Dj;simp[h]
theorem Vp (C:List Sl) (s t:Sl) (h1:t.nd=s.nd) (h2:t.pg=s.pg):(wC C s).set (vZ s.nd s.pg C) t=wC C t:=by
 unfold wC;have hl:(C.take (vZ s.nd s.pg C)).length=vZ s.nd s.pg C:=by rw[bD];have:=zH s.nd s.pg C;omega
 rw[jD _ _ om,hl,iL,h1,h2];rfl
theorem ins_at (C:List Sl) (s:Sl):(wC C s)[vZ s.nd s.pg C]?=some s:=by
 unfold wC;rw[yh (zH _ _ _)];simp
section
variable {B:Nat} {ev:Nat→Addr} {pc pz e:Nat} {mn lw hi:Int} {O:List (List Int)} {X Xt:List Nat} {vs vt:Value} {A At:SA} {c ct:Ca} {w wt:World} {r:Ca×Nat×Ob} {m:Nat} {s:Sl} {p:Nat×Nat}
def yj (B:Nat) (ev:Nat→Addr) (pc pz:Nat) (mn lw hi:Int) (O:List (List Int)) (e:Nat) (X:List Nat) (vs:Value) (A:SA) (c:Ca) (w:World) (r:Ca×Nat×Ob) (en:Ending) (w':World):Prop:=
 en= .returned (.tuple #[obV r.2.2,kM ev r.2.1])∧∃X' v' A',CS B w' pc pz mn lw hi O e X' v' A' r.1∧Keep (cay pc vs A++ys c.L) w w'∧(∀x∈X,x∈X')∧(∀x∈X',x∈X∨w.heap.size≤x)∧∀y∈cay pc v' A',y∈cay pc vs A∨w.heap.size≤y
structure TkS (B:Nat) (w wt:World) (pc pz:Nat) (mn lw hi:Int) (O:List (List Int)) (e:Nat) (X:List Nat) (vs:Value) (A:SA) (c:Ca) (r:Ca×Nat×Ob) (Xt:List Nat) (vt:Value) (At:SA) (ct:Ca) (m:Nat) (s:Sl) (p:Nat×Nat):Prop where
 cs:CS B wt pc pz mn lw hi O e Xt vt At ct
 hs:ct.C[m]?=some s
 hp:At[m]?=some p
 hm:oQ s.T<s.T.length
 hl:s.T.length≤64
 rr:r=(⟨ct.L,ct.C.set m (oH s (lG s.T) true)⟩,0,vK e s (lG s.T))
 kk:Keep (cay pc vs A++ys c.L) w wt
 x1: ∀x∈X,x∈Xt
 x2: ∀x∈Xt,x∈X∨w.heap.size≤x
 y1: ∀y∈cay pc vt At,y∈cay pc vs A∨w.heap.size≤y
 t1:w.heap.size∈Xt
 t2:w.heap.size∉cay pc vt At
 t3:w.heap.size∉ys ct.L
 lr:jR wt w.heap.size [.int .i64 0,.int .i64 0]
theorem TkS.fin (h:TkS B w wt pc pz mn lw hi O e X vs A c r Xt vt At ct m s p) {W W':World} (hW:W=(wt.setCell ⟨p.2,lG s.T,none⟩ (.bool true)).setCell ⟨p.1,4,none⟩ (.int .i64 (kK (oH s (lG s.T) true)))) (k:Keep [w.heap.size] W W'):
 yj B ev pc pz mn lw hi O e X vs A c w r (.returned (.tuple #[obV r.2.2,.nilIface])) W':=by
 obtain⟨m1,m2,m3⟩:=h.cs.slab h.hp;obtain⟨s1,s2⟩:=uX.put (k:=lG s.T) true (h.cs.ch.sl m p s h.hp h.hs) m3 (mX h.hm).1;rw[←hW] at s1 s2;have c1:=h.cs.use h.hp s1 s2;have c2:=c1.keep k (fun x hx=>by
  simp at hx;subst hx;exact⟨h.t2,.inl ⟨h.t1,h.t3⟩⟩)
 have e2:r.2.1=0:=by rw[h.rr]
 have e1:r.1=⟨ct.L,ct.C.set m (oH s (lG s.T) true)⟩:=by rw[h.rr]
 refine⟨by rw[e2];rfl,Xt,vt,At,by rw[e1];exact c2,?_,h.x1,h.x2,h.y1⟩;refine(h.kk.trans s2 (fun x hx=> ?_)).trans k (fun x hx=>by simp at hx;subst hx;exact .inr (aI _));simp at hx;rcases hx with rfl|rfl
 ·exact(h.y1 _ m1).imp (fun q=>av _ q) id
 ·exact(h.y1 _ m2).imp (fun q=>av _ q) id
theorem Vq (v:Int) (u:Bool) (hE:Ah B ev w) (h:CS B w pc pz mn lw hi O e X vs A c) (hv:v<0∨(c.L.length:Int)≤v):
 Calls prog 75 #[.pointer (some ⟨pc,0,none⟩),.int .i64 v,.bool u] w (yj B ev pc pz mn lw hi O e X vs A c w (takeC mn O e c v u)):=by
 have et:takeC mn O e c v u=(c,2,(0,0)):=by unfold takeC;rw[if_pos hv]
 rw[et];have b1:Below w.heap.size w (w.alloc (.cells #[.int .i64 0,.int .i64 0] 40)):=jY;have L1:=ah (jR.mk_ w [.int .i64 0,.int .i64 0] 40 rfl);have NO:=ah (Vn (hE.go b1).c (h.below b1) v hv);have e1:kM ev 2= .iface 336 (.pointer (some (ev 2))):=rfl;have FIN:Hid (∀W,Below w.heap.size w W→yj B ev pc pz mn lw hi O e X vs A c w (c,2,(0,0)) (.returned (.tuple #[.agg #[.int .i64 0,.int .i64 0],.iface 336 (.pointer (some (ev 2)))])) W):=fun W b=>⟨rfl,X,vs,A,h.below b,Keep.of b,fun _ q=>q,fun _ q=>.inl q,fun _ q=>.inl q⟩
 rw[e1] at NO;clear h hv hE e1 b1 et;go_in
 go_wp2_with fail;refine NO.out.mono ?_;rintro r w1 ⟨rfl,hb1⟩;have M:=L1.out.go hb1;have m0:=M.gC 0;have m1:=M.gC 1;have f0:=M.f 0 sI;have f1:=M.f 1 sI;have ml:=M.lt;have HM:=ah (M.lq (.int .i64 0) (.int .i64 0));clear M NO L1;go_wp2;have x0:=HM.out.gC 0;have x1:=HM.out.gC 1;exact bodyPost_ret (v:=.tuple #[.agg #[.int .i64 0,.int .i64 0],.iface 336 (.pointer (some (ev 2)))]) (by simp[x0,x1,results,Tryz.results75,go_sem]) rfl (FIN.out _ jY)
theorem Eu {mn:Int} {O:List (List Int)} {L:List Nd} {v:Nat} {u:Bool} (hO:rM O L.length) (hv:v<L.length):(lQ mn O L v 0 u).2.2.2.2=0:=by
 obtain⟨D,hD,hl,hm,hc⟩:=y8 (mn:=mn) (u:=u) (k:=0) (L:=L) (v:=(v:Int)) hO om;rcases hc with⟨hp,e⟩|⟨j,y,b,hp,j0,j1,hx,hk,hb,e⟩
 ·rw[e]
 ·rw[e]
theorem TkS.rng (h:TkS B w wt pc pz mn lw hi O e X vs A c r Xt vt At ct m s p) (hI:uR e r.1):0≤s.pg∧s.pg<256:=by
 rw[h.rr] at hI;have hl:=(au.1 h.hs).1;have:=hI.rng (s:=oH s (lG s.T) true) (aF (aZ (by simpa using hl)));exact⟨this.2.2.1,this.2.2.2⟩
theorem Ta (v:Nat) (u:Bool) (hE:Ah B ev w) (h:CS B w pc pz mn lw hi O e X vs A c) (hI:uR e c) (hB:B≤w.heap.size) (hv:v<c.L.length):
 Calls prog 75 #[.pointer (some ⟨pc,0,none⟩),.int .i64 v,.bool u] w (yj B ev pc pz mn lw hi O e X vs A c w (takeC mn O e c v u)):=by
 have hvn: ¬((v:Int)<0∨(c.L.length:Int)≤(v:Int)):=om;have e1:=hI.e1;have e2:=hI.e2;have few:=hI.few;have HIN:=ah (wL (mn:=mn) (v:=(v:Int)) (u:=u) h.z.ord hI);have HTC:Hid (takeC mn O e c v u=match oh v c.C c.C.length with
  |some i=>match c.C[i]? with
   |none=>(c,2,(0,0))
   |some s=>(⟨c.L,c.C.set i (oH s (lG s.T) true)⟩,0,vK e s (lG s.T))
  |none=>if (lQ mn O c.L v 0 u).2.1=0 then
    (⟨(lQ mn O c.L v 0 u).1,wC c.C (oH ⟨(lQ mn O c.L v 0 u).2.2.1,(lQ mn O c.L v 0 u).2.2.2.1,kU e⟩ 0 true)⟩,0,((lQ mn O c.L v 0 u).2.2.1,(lQ mn O c.L v 0 u).2.2.2.1*64))
   else(⟨(lQ mn O c.L v 0 u).1,c.C⟩,(lQ mn O c.L v 0 u).2.1,(0,0))):=by
  show _=_;unfold takeC;rw[if_neg hvn];rfl
 obtain⟨R,hR⟩:=eY (takeC mn O e c v u);rw[←hR] at HTC HIN ⊢;clear hR;have TZ0:=ah (Eu (mn:=mn) (u:=u) h.z.ord hv);have b1:Below w.heap.size w (w.alloc (.cells #[.int .i64 0,.int .i64 0] 40)):=jY;have L1:jR (w.alloc (.cells #[.int .i64 0,.int .i64 0] 40)) w.heap.size [.int .i64 0,.int .i64 0]:=jR.mk_ w [.int .i64 0,.int .i64 0] 40 rfl;have h1:CS B (w.alloc (.cells #[.int .i64 0,.int .i64 0] 40)) pc pz mn lw hi O e (w.heap.size::X) vs A c:=(h.more (fun x hx=>ak _ hx) (fun y hy=>by
  rcases aB.1 hy with rfl|q
  ·exact .inr (aI _)
  ·exact .inl q)).below b1
 have E1:=hE.go b1;have NC:Hid (w.heap.size∉cay pc vs A):=fun q=>by have:=(h.ch.lim _ q).2;omega
 have NY:Hid (w.heap.size∉ys c.L):=fun q=>by have:=(h.z.b.lim _ q).2;omega
 obtain⟨W1,hW1⟩:=eY (w.alloc (.cells #[.int .i64 0,.int .i64 0] 40));rw[←hW1] at b1 L1 h1 E1;obtain⟨qv,kv,evs,kv1,kv2,hrow⟩:=h1.ch.form;subst evs;have NO:=ah (cnode_ok h1 v hv);have D6:=ah hrow;have H1:=ah h1;have HL1:=ah L1;have HE1:=ah E1;have HB1:=ah b1;have HI:=ah hI;have z01:w.heap.size<W1.heap.size:=L1.lt;clear h hE L1 h1 E1 b1 hrow hI hvn;go_in
 go_wp2_with fail;rw[←hW1];clear hW1;refine NO.out.mono ?_;rintro r w1 ⟨rfl,hb1⟩;have HC1:=ah (H1.out.below hb1);have c0:=HC1.out.ch.c.gC 0;have c1:=HC1.out.ch.c.gC 1;have c2:=HC1.out.ch.c.gC 2;have cl:=HC1.out.ch.c.lt;have HLR:=ah (HL1.out.go hb1);have HE2:=ah (HE1.out.go hb1);have HBW:=ah (show Below w.heap.size w w1 from HB1.out.trans (hb1.mono om));have HROW1:Hid (∀(j:Nat) (p:Nat×Nat),A[j]?=some p→∃g,qv=some ⟨g,0,none⟩∧g<w1.heap.size∧w1.cell? ⟨g,j,none⟩=some (.pointer (some ⟨p.1,0,none⟩))):=fun j p hj=>by
  obtain⟨g,a1,a2,a3⟩:=D6.out j p hj;exact⟨g,a1,aC a2 hb1.size,(hb1.cell (p:=⟨g,j,none⟩) a2).trans a3⟩
 have z11:=hb1.size;obtain⟨n,hn⟩:=eY c.C.length;have EN:=ah hn;rw[←hn] at c2 few kv1;unfold maxLen at kv2;clear NO D6 H1 HL1 HE1 HB1 hb1 hn;go_wp2_with fail;go_loopw [9,27] (fun bv iv wr=>∃i:Nat,i≤n∧iv= .int .i64 i∧bv=Dj A (oh v c.C i)∧Below w1.heap.size w1 wr) (fun _ iv _=>n-(intOf iv).toNat);case atStart=>exact⟨0,om,by go_num,rfl,jY⟩
 case round=>
  obtain⟨i,hile,rfl,hbv,hbel⟩:=hrel;have BW:Hid (∀W,Below wr.heap.size wr W→Below w1.heap.size w1 W):=fun W b=>hbel.trans (b.mono hbel.size)
  have HCR:=ah (HC1.out.below hbel);by_cases hin:i<n
  ·obtain⟨s,hs⟩: ∃s,c.C[i]?=some s:=⟨c.C[i]'(by rw[←EN.out];exact hin),aA _⟩
   obtain⟨p,hp,hsl,_⟩:=HCR.out.ch.at hs;obtain⟨g,rfl,hg,hc0⟩:=HROW1.out i p hp;have ck:wr.cell? ⟨g,i,none⟩=some (.pointer (some ⟨p.1,0,none⟩)):=(hbel.cell (p:=⟨g,i,none⟩) hg).trans hc0;have gl:g<wr.heap.size:=aC hg hbel.size;have hik:i<kv:=om;obtain⟨d0,d1,_,d3,d4,dl,_⟩:=hsl.cells;have BV:=ah (qG hp);clear hc0 hsl;by_cases h1:s.nd=v
   ·have b1:(s.nd==(v:Int))=true:=by simp[h1]
    have b1':decide (s.nd=(v:Int))=true:=by simp[h1]
    by_cases h2:kK s<s.T.length
    ·have b2:decide (kK s<s.T.length)=true:=dQt h2
     have b2':decide ((kK s:Int)<(s.T.length:Int))=true:=dQt om;cases hb:oh v c.C i with
     |none=>
      have EQ:=ah (Hr hs ⟨h1,h2⟩ hb);rw[hb] at hbv;simp only[Dj] at hbv;subst hbv;clear hs hp h1 hb;generalize kK s=a at*
      generalize s.T.length=l at*
      go_wp2_with fail;go_quiet (fail);go_wp2;go_round
      case rel=>exact⟨i+1,om,by go_num,(by rw[EQ.out,BV.out]),BW.out _ jY⟩
      case measure=>simp[intOf];omega
     |some m=>
      obtain⟨_,z,hz,_,_⟩:=mV hb;obtain⟨y,hy,hyl,_⟩:=HCR.out.ch.at hz;obtain⟨x0,x1,_,x3,x4,xl,_⟩:=hyl.cells;have BY:=ah (qG hy);have EQ:=ah (Et hs ⟨h1,h2⟩ hb hz);rw[hb,qG hy] at hbv;subst hbv;by_cases h3:kK z<kK s
      ·have b3:decide (kK z<kK s)=true:=dQt h3
       have b3':decide ((kK z:Int)<(kK s:Int))=true:=dQt om;have EQ2:=ah (show oh v c.C (i+1)=some i by rw[EQ.out,if_pos h3]);clear hs hp h1 hb hz hy hyl EQ;generalize kK s=a at*
       generalize s.T.length=l at*
       generalize kK z=a' at*
       go_wp2_with fail;go_quiet (fail);go_wp2;go_round
       case rel=>exact⟨i+1,om,by go_num,(by rw[EQ2.out,BV.out]),BW.out _ jY⟩
       case measure=>simp[intOf];omega
      ·have b3:decide (kK z<kK s)=false:=dQf h3
       have b3':decide ((kK z:Int)<(kK s:Int))=false:=dQf om;have EQ2:=ah (show oh v c.C (i+1)=some m by rw[EQ.out,if_neg h3]);clear hs hp h1 hb hz hy hyl EQ h3;generalize kK s=a at*
       generalize s.T.length=l at*
       generalize kK z=a' at*
       go_wp2_with fail;go_quiet (fail);go_wp2;go_round
       case rel=>exact⟨i+1,om,by go_num,(by rw[EQ2.out,BY.out]),BW.out _ jY⟩
       case measure=>simp[intOf];omega
    ·have b2:decide (kK s<s.T.length)=false:=dQf h2
     have b2':decide ((kK s:Int)<(s.T.length:Int))=false:=dQf om;have EQ:=ah (Av (v:=(v:Int)) hs (fun q=>h2 q.2));have HBV:=ah hbv;clear hs hp h1 h2 hbv;generalize kK s=a at*
     generalize s.T.length=l at*
     go_wp2_with fail;go_quiet (fail);go_wp2;go_round
     case rel=>exact⟨i+1,om,by go_num,(by rw[EQ.out];exact HBV.out),BW.out _ jY⟩
     case measure=>simp[intOf];omega
   ·have b1:(s.nd==(v:Int))=false:=by simp[h1]
    have b1':decide (s.nd=(v:Int))=false:=by simp[h1]
    have EQ:=ah (Av (v:=(v:Int)) hs (fun q=>h1 q.1));have HBV:=ah hbv;clear hs hp h1 hbv;go_wp2_with fail;go_quiet (fail);go_wp2;go_round
    case rel=>exact⟨i+1,om,by go_num,(by rw[EQ.out];exact HBV.out),BW.out _ jY⟩
    case measure=>simp[intOf];omega
  ·obtain rfl:i=n:=by omega
   have HKR:=ah (Keep.of (S:=cay pc (.slice qv c.C.length kv) A++ys c.L) (show Below w.heap.size w wr from HBW.out.trans (hbel.mono (by have:=HBW.out.size;omega))));have HLW:=ah (HLR.out.go hbel);cases hb:oh v c.C i with
   |some m=>
    obtain⟨_,s,hs,hnd,hm⟩:=mV hb;obtain⟨p,hp,_,_⟩:=HCR.out.ch.at hs;rw[hb,qG hp] at hbv;subst hbv;have rr:R=(⟨c.L,c.C.set m (oH s (lG s.T) true)⟩,0,vK e s (lG s.T)):=by
     have:=HTC.out;rw[←EN.out,hb] at this;simpa[hs] using this
    have hl64:s.T.length≤64:=by rw[HI.out.len s (HI.out.get hs)];unfold kL;exact dW _ _
    have TS:=ah (show TkS B w wr pc pz mn lw hi O e X (.slice qv c.C.length kv) A c R (w.heap.size::X) (.slice qv c.C.length kv) A c m s p from⟨HCR.out,hs,hp,hm,hl64,rr,HKR.out,fun x hx=>ak _ hx,fun x hx=>by
     rcases aB.1 hx with rfl|q
     ·exact .inr (aI _)
     ·exact .inl q,fun y hy=>.inl hy,aG ..,NC.out,NY.out,HLW.out⟩)
    clear hb hs hp rr hm hnd;obtain⟨wt,ewt⟩:=eY wr;subst ewt;obtain⟨f1,f2,_⟩:=mX TS.out.hm;have SLB:=TS.out.cs.ch.sl m p s TS.out.hp TS.out.hs;obtain⟨d0,d1,_,d3,d4,dl,dl2⟩:=SLB.cells;obtain⟨k,hk⟩:=eY (lG s.T);rw[←hk] at f1 f2;have l64:=TS.out.hl;have hml:=qR s.T;have IX:=ah (Ep (X:=[]) s.T p.2 k wt SLB.2 hk.symm TS.out.hm TS.out.hl);have fz:wt.frozen? ⟨p.2,k,none⟩=false:=SLB.2.f k (by rw[qF];omega);have fz4:wt.frozen? ⟨p.1,4,none⟩=false:=SLB.1.f 4 (by simp[qm]);have ck:wt.cell? ⟨p.2,k,none⟩=some (.bool false):=SLB.2.c k _ (oq f2);have ne12: ¬(p.1=p.2):=(TS.out.cs.slab TS.out.hp).2.2;have ne21: ¬(p.2=p.1):=fun q=>ne12 q.symm
    have HK:=ah hk;have hms:kK s≤64:=by have:kK s=oQ s.T:=rfl;omega
    have HMS:((kK (oH s k true):Nat):Int)=(kK s:Int)+1:=by
     have h0:=yI f2 true;have h1:kK (oH s k true)=oQ (s.T.set k true):=rfl;have h2:kK s=oQ s.T:=rfl;simp at h0;omega
    have HSP:=ah (uX.put (k:=k) true SLB ne12 f1);rw[HMS] at HSP;obtain⟨g0,g1⟩:=TS.out.rng HIN.out;have ke0:(0:Int)≤(k:Int)*(e:Int):=fO om om;have ke1:(k:Int)*(e:Int)≤4096:=by
     have:=eP (show k≤64 by omega) e2;have h2:((k*e:Nat):Int)≤((64*64:Nat):Int):=om;simpa using h2
    have ro:obV R.2.2= .agg #[.int .i64 s.nd,.int .i64 (s.pg*64+(k:Int)*(e:Int))]:=by rw[TS.out.rr,←HK.out];rfl
    have RO:=ah ro;have HMS':=ah HMS;clear SLB hk f2 HMS ro;go_wp2_with fail;refine IX.out.mono ?_;rintro r2 w2 ⟨rfl,rfl⟩;go_wp2_with fail;obtain⟨W,hW⟩:=eY ((wt.setCell ⟨p.2,k,none⟩ (.bool true)).setCell ⟨p.1,4,none⟩ (.int .i64 ((kK s:Int)+1)));rw[←hW];have hW':=ah (show W=(wt.setCell ⟨p.2,lG s.T,none⟩ (.bool true)).setCell ⟨p.1,4,none⟩ (.int .i64 (kK (oH s (lG s.T) true))) by rw[←HK.out,HMS'.out];exact hW);have SP:=HSP.out;rw[←hW] at SP;obtain⟨a0,a1,_,_,_,al,_⟩:=SP.1.cells;have LC:=(TS.out.cs.use TS.out.hp SP.1 SP.2).ch.c;have q1:=LC.gC 1;have ql:=LC.lt;have LRW:jR W w.heap.size [.int .i64 0,.int .i64 0]:=TS.out.lr.keep SP.2 (fun q=>by
     have m:=TS.out.cs.slab TS.out.hp;simp at q;rcases q with q|q
     ·exact TS.out.t2 (q▸m.1)
     ·exact TS.out.t2 (q▸m.2.1))
    have v0:=LRW.gC 0;have v1:=LRW.gC 1;have vf0:=LRW.f 0 sI;have vf1:=LRW.f 1 sI;have vl:=LRW.lt;have n0:=LRW.mP.gC 0;have n1:=LRW.mP.gC 1;have nf0:=LRW.mP.f 0 sI;have nf1:=LRW.mP.f 1 sI;have HRW:=ah (LRW.lq (.int .i64 s.nd) (.int .i64 (s.pg*64+(k:Int)*(e:Int))));have HRX:=ah (LRW.store 0 (.int .i64 s.nd) sI);clear d0 d1 d3 d4 ck fz fz4 hW SP LC LRW HSP IX c0 c1 c2 cl;simp only[oH] at a0 a1;refine lJ 20 kR kR ?_;simp only[aQ,aV,aP,aU];repeat still_step
    refine wpStill_nil ?_;go_wp2;have x0:=HRW.out.gC 0;have x1:=HRW.out.gC 1;have y0:=HRX.out.gC 0;refine bodyPost_ret (v:=.tuple #[.agg #[.int .i64 s.nd,.int .i64 (s.pg*64+(k:Int)*(e:Int))],.nilIface]) ?_ rfl ?_
    ·simp[x0,x1,y0,results,Tryz.results75,go_sem]
    ·rw[←RO.out]
     exact TS.out.fin hW'.out (((Keep.refl _ _).setCell (p:=⟨w.heap.size,0,none⟩) (.inl sI) _).setCell (p:=⟨w.heap.size,1,none⟩) (.inl sI) _).drew
   |none=>
    rw[hb] at hbv;simp only[Dj] at hbv;subst hbv;obtain⟨L',q,nd,pg,k,hz⟩: ∃L' q nd pg k,lQ mn O c.L v 0 u=(L',q,(nd,pg,k)):=⟨_,_,_,_,_,rfl⟩;have rr:=HTC.out;rw[←EN.out,hb] at rr;simp only[hz] at rr;cases q with
    |succ q=>
     rw[if_neg om] at rr;have GN:=ah (cgrow_no (u:=u) (v:=(v:Int)) (HE2.out.go hbel) HCR.out L' q nd pg k hz);obtain⟨vv,hvv⟩:=eY (ev (q+1));have e1':kM ev (q+1)= .iface 336 (.pointer (some vv)):=by rw[hvv];rfl
     have FIN:Hid (∀W W',Qd B ev pc pz mn lw hi O e (w.heap.size::X) (.slice qv c.C.length kv) A c wr L' (q+1) (.returned (.tuple #[.pointer none,.iface 336 (.pointer (some vv))])) W→Keep [w.heap.size] W W'→yj B ev pc pz mn lw hi O e X (.slice qv c.C.length kv) A c w R (.returned (.tuple #[.agg #[.int .i64 0,.int .i64 0],.iface 336 (.pointer (some vv))])) W'):=fun W W' hG hK=>by
      obtain⟨_,g2,g3⟩:=hG;refine⟨by rw[rr,←e1'];rfl,w.heap.size::X,_,A,?_,?_,fun x hx=>ak _ hx,fun x hx=> ?_,fun y hy=>.inl hy⟩
      ·rw[rr]
       exact g2.keep hK (fun x hx=>by
        simp at hx;subst hx;refine⟨NC.out,.inl ⟨aG ..,?_⟩⟩;have sz:=tQ mn O c.L v 0 u;rw[hz] at sz;show w.heap.size∉ys L';rw[sz.ys];exact NY.out)
      ·exact(HKR.out.then (g3.mono (fun y q=>aj _ q))).trans hK (fun x hx=>by simp at hx;subst hx;exact .inr (aI _))
      ·rcases aB.1 hx with rfl|q
       ·exact .inr (aI _)
       ·exact .inl q
     have GN2:Hid (Calls prog 110 #[.pointer (some ⟨pc,0,none⟩),.int .i64 v,.bool u] wr fun r' w'=>r'= .returned (.tuple #[.pointer none,.iface 336 (.pointer (some vv))])∧Qd B ev pc pz mn lw hi O e (w.heap.size::X) (.slice qv c.C.length kv) A c wr L' (q+1) r' w'):=GN.out.mono fun r' w' hg=>⟨by rw[←e1'];exact hg.1,hg⟩
     have LRK:Hid (∀W,Keep (ys c.L) wr W→jR W w.heap.size [.int .i64 0,.int .i64 0]):=fun W k=>HLW.out.keep k NY.out
     clear GN hz rr e1' hvv hb;go_wp2_with fail;refine GN2.out.mono ?_;rintro r' w3 ⟨rfl,hG⟩;have M:=LRK.out w3 hG.2.2;have m0:=M.gC 0;have m1:=M.gC 1;have f0:=M.f 0 sI;have f1:=M.f 1 sI;have ml:=M.lt;have HM:=ah (M.lq (.int .i64 0) (.int .i64 0));have HG:=ah hG;clear M hG;go_wp2;have x0:=HM.out.gC 0;have x1:=HM.out.gC 1;exact bodyPost_ret (v:=.tuple #[.agg #[.int .i64 0,.int .i64 0],.iface 336 (.pointer (some vv))]) (by simp[x0,x1,results,Tryz.results75,go_sem]) rfl (FIN.out _ _ HG.out (((Keep.refl _ _).setCell (p:=⟨w.heap.size,0,none⟩) (.inl sI) _).setCell (p:=⟨w.heap.size,1,none⟩) (.inl sI) _))
    |zero=>
     rw[if_pos rfl] at rr;have hk:=TZ0.out;rw[hz] at hk;simp only at hk;subst hk;have GY:=ah (Vo (u:=u) (v:=(v:Int)) (HE2.out.go hbel) HCR.out HI.out (by have:=HBW.out.size;have:=hbel.size;omega) L' nd pg hz);have MKT:Hid (∀p X' v' A' W,CS B W pc pz mn lw hi O e X' v' A' ⟨L',wC c.C ⟨nd,pg,kU e⟩⟩→A'[vZ nd pg c.C]?=some p→Keep (cay pc (.slice qv c.C.length kv) A++ys c.L) wr W→(∀x∈w.heap.size::X,x∈X')→(∀x∈X',x∈w.heap.size::X∨wr.heap.size≤x)→(∀y∈cay pc v' A',y∈cay pc (.slice qv c.C.length kv) A∨wr.heap.size≤y)→TkS B w W pc pz mn lw hi O e X (.slice qv c.C.length kv) A c R X' v' A' ⟨L',wC c.C ⟨nd,pg,kU e⟩⟩ (vZ nd pg c.C) ⟨nd,pg,kU e⟩ p):=fun p X' v' A' W g1 g2 g3 g4 g5 g6=>by
      have zwr:w.heap.size<wr.heap.size:=HLW.out.lt;have f0:=BG e1 e2;have nl:(kU e).length=kL e:=by unfold kU;simp
      have sz:=tQ mn O c.L v 0 u;rw[hz] at sz;refine⟨g1,ins_at c.C ⟨nd,pg,kU e⟩,g2,?_,?_,?_,HKR.out.then g3,fun x hx=>g4 x (ak _ hx),fun x hx=> ?_,fun y hy=> ?_,g4 _ (aG ..),fun q=> ?_,?_,HLW.out.keep g3 (fun q=> ?_)⟩
      ·show oQ (kU e)<(kU e).length
       rw[xC,nl];exact rZ e1 e2
      ·show(kU e).length≤64
       rw[nl];unfold kL;exact dW _ _
      ·rw[rr]
       have h0:lG (⟨nd,pg,kU e⟩:Sl).T=0:=f0;rw[h0];have h1:=Vp c.C ⟨nd,pg,kU e⟩ (oH ⟨nd,pg,kU e⟩ 0 true) rfl rfl;show _=((⟨L',(wC c.C ⟨nd,pg,kU e⟩).set (vZ nd pg c.C) (oH ⟨nd,pg,kU e⟩ 0 true)⟩,0,vK e ⟨nd,pg,kU e⟩ 0):Ca×Nat×Ob);rw[show(wC c.C ⟨nd,pg,kU e⟩).set (vZ nd pg c.C) (oH ⟨nd,pg,kU e⟩ 0 true)=wC c.C (oH ⟨nd,pg,kU e⟩ 0 true) from h1];unfold vK;simp
      ·rcases g5 x hx with q|q
       ·rcases aB.1 q with rfl|q
        ·exact .inr (aI _)
        ·exact .inl q
       ·exact .inr om
      ·exact(g6 y hy).imp id (fun q=>om)
      ·rcases g6 _ q with t|t
       ·exact NC.out t
       ·omega
      ·show w.heap.size∉ys L'
       rw[sz.ys];exact NY.out
      ·rcases aD.1 q with t|t
       ·exact NC.out t
       ·exact NY.out t
     clear hz rr hb TZ0 HTC;go_wp2_with fail;refine GY.out.mono ?_;rintro r' wt ⟨p,X',v',A',rfl,g1,g2,g3,g4,g5,g6⟩;obtain⟨m,hm⟩:=eY (vZ nd pg c.C);obtain⟨s,hs⟩: ∃s:Sl,s=⟨nd,pg,kU e⟩:=⟨_,rfl⟩;have TS:=MKT.out p X' v' A' wt g1 g2 g3 g4 g5 g6;rw[←hm,←hs] at TS;obtain⟨ct,hct⟩: ∃ct:Ca,ct=⟨L',wC c.C s⟩:=⟨_,rfl⟩;rw[←hct] at TS;have TS:=ah TS;clear g1 g2 g3 g4 g5 g6 MKT GY hm hs hct;obtain⟨f1,f2,_⟩:=mX TS.out.hm;have SLB:=TS.out.cs.ch.sl m p s TS.out.hp TS.out.hs;obtain⟨d0,d1,_,d3,d4,dl,dl2⟩:=SLB.cells;obtain⟨k,hk⟩:=eY (lG s.T);rw[←hk] at f1 f2;have l64:=TS.out.hl;have hml:=qR s.T;have IX:=ah (Ep (X:=[]) s.T p.2 k wt SLB.2 hk.symm TS.out.hm TS.out.hl);have fz:wt.frozen? ⟨p.2,k,none⟩=false:=SLB.2.f k (by rw[qF];omega);have fz4:wt.frozen? ⟨p.1,4,none⟩=false:=SLB.1.f 4 (by simp[qm]);have ck:wt.cell? ⟨p.2,k,none⟩=some (.bool false):=SLB.2.c k _ (oq f2);have ne12: ¬(p.1=p.2):=(TS.out.cs.slab TS.out.hp).2.2;have ne21: ¬(p.2=p.1):=fun q=>ne12 q.symm
     have HK:=ah hk;have hms:kK s≤64:=by have:kK s=oQ s.T:=rfl;omega
     have HMS:((kK (oH s k true):Nat):Int)=(kK s:Int)+1:=by
      have h0:=yI f2 true;have h1:kK (oH s k true)=oQ (s.T.set k true):=rfl;have h2:kK s=oQ s.T:=rfl;simp at h0;omega
     have HSP:=ah (uX.put (k:=k) true SLB ne12 f1);rw[HMS] at HSP;obtain⟨g0,g1⟩:=TS.out.rng HIN.out;have ke0:(0:Int)≤(k:Int)*(e:Int):=fO om om;have ke1:(k:Int)*(e:Int)≤4096:=by
      have:=eP (show k≤64 by omega) e2;have h2:((k*e:Nat):Int)≤((64*64:Nat):Int):=om;simpa using h2
     have ro:obV R.2.2= .agg #[.int .i64 s.nd,.int .i64 (s.pg*64+(k:Int)*(e:Int))]:=by rw[TS.out.rr,←HK.out];rfl
     have RO:=ah ro;have HMS':=ah HMS;clear SLB hk f2 HMS ro;go_wp2_with fail;refine IX.out.mono ?_;rintro r2 w2 ⟨rfl,rfl⟩;go_wp2_with fail;obtain⟨W,hW⟩:=eY ((wt.setCell ⟨p.2,k,none⟩ (.bool true)).setCell ⟨p.1,4,none⟩ (.int .i64 ((kK s:Int)+1)));rw[←hW];have hW':=ah (show W=(wt.setCell ⟨p.2,lG s.T,none⟩ (.bool true)).setCell ⟨p.1,4,none⟩ (.int .i64 (kK (oH s (lG s.T) true))) by rw[←HK.out,HMS'.out];exact hW);have SP:=HSP.out;rw[←hW] at SP;obtain⟨a0,a1,_,_,_,al,_⟩:=SP.1.cells;have LC:=(TS.out.cs.use TS.out.hp SP.1 SP.2).ch.c;have q1:=LC.gC 1;have ql:=LC.lt;have LRW:jR W w.heap.size [.int .i64 0,.int .i64 0]:=TS.out.lr.keep SP.2 (fun q=>by
      have m:=TS.out.cs.slab TS.out.hp;simp at q;rcases q with q|q
      ·exact TS.out.t2 (q▸m.1)
      ·exact TS.out.t2 (q▸m.2.1))
     have v0:=LRW.gC 0;have v1:=LRW.gC 1;have vf0:=LRW.f 0 sI;have vf1:=LRW.f 1 sI;have vl:=LRW.lt;have n0:=LRW.mP.gC 0;have n1:=LRW.mP.gC 1;have nf0:=LRW.mP.f 0 sI;have nf1:=LRW.mP.f 1 sI;have HRW:=ah (LRW.lq (.int .i64 s.nd) (.int .i64 (s.pg*64+(k:Int)*(e:Int))));have HRX:=ah (LRW.store 0 (.int .i64 s.nd) sI);clear d0 d1 d3 d4 ck fz fz4 hW SP LC LRW HSP IX c0 c1 c2 cl;simp only[oH] at a0 a1;refine lJ 20 kR kR ?_;simp only[aQ,aV,aP,aU];repeat still_step
     refine wpStill_nil ?_;go_wp2;have x0:=HRW.out.gC 0;have x1:=HRW.out.gC 1;have y0:=HRX.out.gC 0;refine bodyPost_ret (v:=.tuple #[.agg #[.int .i64 s.nd,.int .i64 (s.pg*64+(k:Int)*(e:Int))],.nilIface]) ?_ rfl ?_
     ·simp[x0,x1,y0,results,Tryz.results75,go_sem]
     ·rw[←RO.out]
      exact TS.out.fin hW'.out (((Keep.refl _ _).setCell (p:=⟨w.heap.size,0,none⟩) (.inl sI) _).setCell (p:=⟨w.heap.size,1,none⟩) (.inl sI) _).drew
end
structure ElS (T E:TypeId) (z:Value) (s b:Nat):Prop where
 und:prog.underlying T=some (.slice E)
 info:(prog.info? E).map (fun i=>(i.zero,i.size,i.bytes))=some (some z,s,b)
 one:z.cells.size=s
 pos:0<s
 few:b≤64
theorem uh:ElS 38 40 (.agg #[.int .i64 0,.int .i64 0]) 2 16:=⟨Tryz.underlying38,kR,rfl,om,om⟩
theorem Qf {T E:TypeId} {z:Value} {s b:Nat} (hE:ElS T E z s b) {w:World} (ty:TypeId) {base:Nat} {v:Value} {n:Nat} {xs ms:List Value} (hown:w.ownsRow base E s v n xs) {a:Addr} {c:Nat} (hm:ms.length=s) (hc: ∀(j:Nat) (u:Value),ms[j]?=some u→w.cell? (a.add j)=some u) (h1: ∀u∈ms,u.oneCell'=true)
 (hl:n≤70000) (hb:base≤w.heap.size):
 ∃q k w',(Builtin.append_ #[T,T] ty #[v,.slice (some a) 1 c]).run prog w= .ok (.slice q (n+1) k) w'∧w'.ownsRow base E s (.slice q (n+1) k) (n+1) (xs++ms)∧w.grownBy w' v.ownBlock:=by
 obtain⟨i0,hi,hz0,hz1,hz2⟩:=info_parts hE.info;have zY:=hE.few;obtain⟨v',w',hrun,h2,h3,_,h5⟩:=run_append_own_at (P:=prog) w base T ty E i0 z s b hE.und hi hz0 hz1 hz2 hE.one hE.pos v n xs hown a 1 c ms
  om hc h1 (by unfold maxLen;omega) (by
   have:(n+1)*b≤70001*64:=eP om zY;omega) hb
 have hf: ∃q k,v'= .slice q (n+1) k:=by
  rcases h2.2 with⟨e,e2⟩|⟨g',cap',cur,e,_⟩
  ·exact⟨none,0,by rw[e,e2]⟩
  ·exact⟨_,_,e⟩
 obtain⟨q,k,rfl⟩:=hf;exact⟨q,k,w',hrun,h2,h3⟩
theorem Hy {T E:TypeId} {z:Value} {s b:Nat} (hE:ElS T E z s b) {base:Nat} {v:Value} {n:Nat} {xs ms:List Value} {w:World} {ad:Addr} {c:Nat} {ops:Array Oper} {o:Oper} {a:Act} {K:Act→World→Prop} {Q:Exit→Act→World→Prop} {F:Prop} (hgd:o.guard=none) (sl x:Operand)
 (ho:o.op= .call {callee:=.builtin .append,args:=#[sl,x],argTypes:=#[T,T]}) (hv:a.eval sl=v) (hx:a.eval x= .slice (some ad) 1 c)
 (hown:w.ownsRow base E s v n xs) (hm:ms.length=s) (hc: ∀(j:Nat) (u:Value),ms[j]?=some u→w.cell? (ad.add j)=some u) (h1: ∀u∈ms,u.oneCell'=true) (hl:n≤70000) (hb:base≤w.heap.size)
 (h: ∀q k w',w'.ownsRow base E s (.slice q (n+1) k) (n+1) (xs++ms)→w.grownBy w' v.ownBlock→K (a.put o.dst (.slice q (n+1) k)) w'):
 if Region.wanted o (yielded ops a.tmps)=true then Oper.wp prog o a w K Q else F:=by
 have hw:Region.wanted o (yielded ops a.tmps)=true:=by simp[Region.wanted,hgd]
 rw[if_pos hw];obtain⟨q,k,w',hrun,h2,h3⟩:=Qf hE (w:=w) o.type hown hm hc h1 hl hb (c:=c);unfold Oper.wp execOp;simp only[ho,resolve,invoke,builtin,fH,fQ,dZ,eD,bH,eu,hv,hx,hrun];exact h q k w' h2 h3
def JJ (e:Nat) (s:Sl) (k:Nat):List Ob:=(List.range k).filterMap fun k=>if s.T[k]?=some true then some (vK e s k) else none
theorem FK (e:Nat) (s:Sl):JJ e s s.T.length=obsS e s:=rfl
theorem Qg {e:Nat} {s:Sl} {k:Nat} (h:s.T[k]?=some true):JJ e s (k+1)=JJ e s k++[vK e s k]:=by
 unfold JJ;rw[jJ,List.filterMap_append];simp[h]
theorem VA {e:Nat} {s:Sl} {k:Nat} (h:s.T[k]?=some false):JJ e s (k+1)=JJ e s k:=by
 unfold JJ;rw[jJ,List.filterMap_append];simp[h]
theorem FL (e:Nat) (s:Sl) (k:Nat):(JJ e s k).length≤k:=by
 unfold JJ;have:=List.length_filterMap_le (fun k=>if s.T[k]?=some true then some (vK e s k) else none) (List.range k);simpa using this
theorem Hz {e:Nat} {C:List Sl} {i:Nat} {s:Sl} (h:C[i]?=some s):qj e (C.take (i+1))=qj e (C.take i)++obsS e s:=by
 rw[bR,h];unfold qj;simp
theorem FM {e:Nat}: ∀{C:List Sl},(∀s∈C,s.T.length≤64)→(qj e C).length≤64*C.length
 |[],_=>bq _
 |s::C,h=>by
  have h1:=FM (e:=e) (C:=C) fun x hx=>h x (ak _ hx)
  have h2:=h s sI;have h3:=FL e s s.T.length;rw[FK] at h3;have:qj e (s::C)=obsS e s++qj e C:=by simp[qj]
  rw[this,aW,dB];omega
def OwnO (w w':World) (v:Value) (l:List Ob):Prop:=w'.ownsRow w.heap.size 40 2 v l.length (l8 l)∧Below w.heap.size w w'
section
variable {B:Nat} {ev:Nat→Addr} {pc pz e:Nat} {mn lw hi:Int} {O:List (List Int)} {X:List Nat} {vs:Value} {A:SA} {c:Ca} {w:World}
def JK (l:List Pl):List Value:=l.flatMap fun p=>[.int .i64 p.1,.int .i64 p.2.1,.int .i64 p.2.2]
end
