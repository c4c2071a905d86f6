/- Lemmas and contracts for the claim's last text: Cut, SGrow, CutF. -/
import Derived.Test.YtdcbhlcbiokbeaaGreatDoorPf01
import Derived.Test.YtdcbhlcbiokbeaaGreatDoorPf09
set_option linter.unusedSimpArgs false
set_option linter.unusedVariables false
set_option maxHeartbeats 16000000
set_option maxRecDepth 100000
namespace Go.Proofs.YtdcbhlcbiokbeaaGreatDoor
section
open Go
section
variable {P:Program} {md:Region.Mode} {l:List Oper} {n:Nat}
def Bn (md:Region.Mode) (l:List Oper) (n:Nat):Bool:=
 decide (n<l.length)&&Region.sinkB md l.toArray n&&Region.chainB md l.toArray n&&
 ((List.range n).all fun j=>match l[j]? with
   |some o=>(o.after.all fun e=>decide (e.on<j))&&(match o.guard with|some (g,_)=>decide (g<n)|none=>true)
   |none=>false)&&
 Region.seqB md l.toArray (l.length-n) n (List.replicate n true++List.replicate (l.length-n) false).toArray
def kH (P:Program) (l:List Oper) (n:Nat) (Q:Exit→Act→World→Prop):Exit→Act→World→Prop
 | .normal,a,w=>wpList P l.toArray Q (l.drop n) a w
 |e,a,w=>Q e a w
structure kF (l:List Oper) (n:Nat) (listed L:Array Bool):Prop where
 s1:listed.size=n
 s2:L.size=l.length
 eq: ∀i,i<n→L[i]?=listed[i]?
 tl: ∀t,n≤t→t<l.length→L.getD t true=false
theorem uj {ops:Array Oper} {Q:Exit→Act→World→Prop}: ∀(f:Nat) (listed:Array Bool) (a:Act) (w:World),wpAny P md ops Q f listed a w→wpAny P md ops Q (f+1) listed a w
 |0,_,_,_,h=>⟨fun _=>h.2,fun i hi=>by rw[h.1] at hi;cases hi⟩
 |f+1,_,_,_,h=>⟨h.1,fun i hi=>wpOp_mono (fun a' w' h'=>uj f _ a' w' h') (h.2 i hi)⟩
theorem nZ {ops:Array Oper} {Q:Exit→Act→World→Prop} (f k:Nat) (listed:Array Bool) (a:Act) (w:World) (h:wpAny P md ops Q f listed a w):wpAny P md ops Q (f+k) listed a w:=by
 induction k with
 |zero=>exact h
 |succ k ih=>exact uj _ _ _ _ ih
theorem qJ {Q:Exit→Act→World→Prop} (h:LetsOut (kH P l n Q)):LetsOut Q:=h
theorem Cz {o:Oper} {a:Act} {w:World} {K:Act→World→Prop} {Q:Exit→Act→World→Prop} (h:o.wp P a w K (kH P l n Q)):o.wp P a w K Q:=by
 unfold Oper.wp at*
 generalize(execOp a.eval o).run P w=r at*
 cases r with
 |ok m w'=>
  cases m<;>simp only[Oper.upon] at h ⊢ <;>first|exact h|exact Calls.mono h (fun e w'' he=>by cases e<;>exact he)
 |halt x w'=>cases x<;>simp only[Oper.upon] at h ⊢ <;>exact h
theorem kF.set {listed L:Array Bool} {i:Nat} (h:kF l n listed L) (hi:i<n):kF l n (listed.setIfInBounds i true) (L.setIfInBounds i true):=
 ⟨by simp[h.s1],by simp[h.s2],fun j hj=>by
   by_cases hij:i=j
   ·subst hij
    have h1:=h.s1
    have h2:=h.s2
    have h3:=h.eq i hi
    by_cases hl:i<l.length
    ·simp[h1,h2,hi,hl]
    ·rw[dS om] at h3
     rw[fM om] at h3
     cases h3
   ·simp[Array.getElem?_setIfInBounds_ne hij,h.eq j hj],fun t ht ht'=>by
   rw[getD_set_ne true om];exact h.tl t ht ht'⟩
theorem kF.getD {listed L:Array Bool} {i:Nat} (h:kF l n listed L) (hi:i<n) (d:Bool):L.getD i d=listed.getD i d:=by
 have:=h.eq i hi
 simp[this]
theorem wz {listed L:Array Bool} (hB:Bn md l n=true) (h:kF l n listed L) {i:Nat} (hi:i<n):
 i∈Region.ready md l.toArray L↔i∈Region.ready md (l.take n).toArray listed:=by
 simp only[Bn,bB,decide_eq_true_eq] at hB
 obtain⟨⟨⟨⟨hn,_⟩,_⟩,hA⟩,_⟩:=hB
 have hAi:=dG.1 hA i (dI.2 hi)
 rw[mem_ready,mem_ready,h.getD hi true]
 have e1:(l.take n).toArray[i]?=l.toArray[i]?:=by simp[hi]
 rw[e1]
 refine and_congr_right fun _=>exists_congr fun o=>and_congr_right fun ho=> ?_
 have ho':l[i]?=some o:=by simpa using ho
 rw[ho'] at hAi
 simp only[bB] at hAi
 have hE:=dH.1 hAi.1
 exact forall_congr' fun e=>forall_congr' fun he=>forall_congr' fun _=>by
  rw[h.getD (by have:=of_decide_eq_true (hE e he);omega)]
theorem Aw {o:Oper} {tmps:Array Value} (hB:Bn md l n=true) {i:Nat} (hi:i<n) (ho:l[i]?=some o):
 Region.wanted o (yielded (l.take n).toArray tmps)=Region.wanted o (yielded l.toArray tmps):=by
 simp only[Bn,bB,decide_eq_true_eq] at hB
 obtain⟨⟨⟨⟨hn,_⟩,_⟩,hA⟩,_⟩:=hB
 have hAi:=dG.1 hA i (dI.2 hi)
 rw[ho] at hAi
 simp only[bB] at hAi
 unfold Region.wanted
 cases hg:o.guard with
 |none=>rfl
 |some p=>
  obtain⟨g,b⟩:=p
  have hgn:g<n:=by
   have:=hAi.2
   rw[hg] at this
   simpa using this
  have e1:yielded (l.take n).toArray tmps g=yielded l.toArray tmps g:=by unfold yielded;simp[hgn]
  simp only[e1]
theorem zw {listed L:Array Bool} (h:kF l n listed L) (hn:n<l.length) (ha: ∀i,i<n→listed.getD i false=true):L=(List.replicate n true++List.replicate (l.length-n) false).toArray:=by
 apply Array.ext
 ·simp[h.s2];omega
 ·intro i h1 h2
  have hl:i<l.length:=by have:=h.s2;omega
  by_cases hi:i<n
  ·have e1:=h.eq i hi
   have e2:=ha i hi
   have hs:i<listed.size:=by rw[h.s1];exact hi
   rw[fM h1,fM hs] at e1
   have e3:listed[i]=true:=by simpa[hs] using e2
   have e4:=aH e1
   rw[e4,e3]
   simp[List.getElem_append,hi]
  ·have e1:=h.tl i om hl
   have e3:L[i]=false:=by simpa[h1] using e1
   rw[e3]
   simp[List.getElem_append,hi]
theorem cut_all {listed L:Array Bool} (hB:Bn md l n=true) (h:kF l n listed L) (he:Region.ready md (l.take n).toArray listed=[]): ∀i,i<n→listed.getD i false=true:=by
 simp only[Bn,bB,decide_eq_true_eq] at hB
 obtain⟨⟨⟨⟨hn,_⟩,_⟩,hA⟩,_⟩:=hB
 intro i
 induction i using Nat.strongRecOn with
 |_ i ih=>
  intro hi
  cases hl:listed.getD i false with
  |true=>rfl
  |false=>
   have hAi:=dG.1 hA i (dI.2 hi)
   have hil:i<l.length:=om
   rw[aA hil] at hAi
   simp only[bB] at hAi
   have hE:=dH.1 hAi.1
   have:i∈Region.ready md (l.take n).toArray listed:=mem_ready.2 ⟨getD_in (by rw[h.s1];exact hi) hl,l[i],by simp[hi,hil],fun e he _=>by
    have:=of_decide_eq_true (hE e he)
    exact ih e.on this om⟩
   rw[he] at this
   cases this
theorem cut_go {Q:Exit→Act→World→Prop} {listed L:Array Bool} {a:Act} {w:World} (hB:Bn md l n=true) (h:kF l n listed L) (he:Region.ready md (l.take n).toArray listed=[])
 (hQ:wpList P l.toArray Q (l.drop n) a w):wpAny P md l.toArray Q (l.drop n).length L a w:=by
 have ha:=cut_all hB h he
 simp only[Bn,bB,decide_eq_true_eq] at hB
 obtain⟨⟨⟨⟨hn,_⟩,_⟩,_⟩,hseq⟩:=hB
 have e:=zw h hn ha
 subst e
 exact wpAny_of_seq (l.drop n) n _ a w (fun j=>by simp[dh]) (by simpa using hseq) hQ
theorem cut_any {Q:Exit→Act→World→Prop} (hB:Bn md l n=true):
 ∀(f:Nat) (listed L:Array Bool) (a:Act) (w:World),kF l n listed L→HeadInv md l.toArray n L→
  wpAny P md (l.take n).toArray (kH P l n Q) f listed a w→wpAny P md l.toArray Q ((l.drop n).length+f) L a w:=by
 have hB':=hB
 simp only[Bn,bB,decide_eq_true_eq] at hB'
 obtain⟨⟨⟨⟨hn,hs⟩,hc⟩,hA⟩,_⟩:=hB'
 intro f
 induction f with
 |zero=>
  intro listed L a w hr inv h
  exact cut_go hB hr h.1 h.2
 |succ f ih=>
  intro listed L a w hr inv h
  by_cases he:Region.ready md (l.take n).toArray listed=[]
  ·exact nZ _ (f+1) _ _ _ (cut_go hB hr he (h.1 he))
  ·obtain⟨i0,hi0⟩:=List.exists_mem_of_ne_nil _ he
   have hi0n:i0<n:=by
    obtain⟨_,o,ho,_⟩:=mem_ready.1 hi0
    have:=(fH.1 ho).1
    simp at this;omega
   have hun:L.getD i0 true=false:=by rw[hr.getD hi0n];exact(mem_ready.1 hi0).1
   have hin: ∀i∈Region.ready md l.toArray L,i<n:=fun i hi=>by
    rcases dx i n with q|q
    ·exact q
    ·exact absurd hi (tail_waits hs hc (by simpa using hn) inv _ i0 rfl hi0n hun i q)
   refine⟨fun h0=> ?_,fun i hi=> ?_⟩
   ·have:=(wz hB hr hi0n).2 hi0
    rw[h0] at this;cases this
   ·have hin':=hin i hi
    have h1:=h.2 i ((wz hB hr hin').1 hi)
    have hil:i<l.length:=om
    have e1:(l.take n).toArray[i]?=some l[i]:=by simp[hin',hil]
    have e2:l.toArray[i]?=some l[i]:=by simp[hil]
    have hst: ∀a' w',wpAny P md (l.take n).toArray (kH P l n Q) f (listed.setIfInBounds i true) a' w'→wpAny P md l.toArray Q ((l.drop n).length+f) (L.setIfInBounds i true) a' w':=
     fun a' w' h'=>ih _ _ a' w' (hr.set hin') (inv.set hi hin') h'
    unfold wpOp at h1 ⊢
    simp only[e1] at h1
    simp only[e2]
    rw[Aw hB hin' (aA hil)] at h1
    split
    ·rename_i hw
     simp only[hw,if_true] at h1
     rcases h1 with h1|h1
     ·exact .inl (Oper.wp_mono hst (Cz h1))
     ·exact .inr ⟨h1.1,qJ h1.2⟩
    ·rename_i hw
     simp only[hw] at h1
     exact hst _ _ h1
theorem iN {S:World→Prop} {id:Nat} {Q:Exit→Act→World→Prop} {a:Act} {w:World} (n:Nat) (L:Array Bool) (hL:L=(List.replicate n false).toArray) (hm:P.follows .mixedOrders=true) (hB:Bn .any l n=true) (hS:S w.drew)
 (h:S w.drew→wpAnyH P .any (l.take n).toArray (kH P l n Q) S n L a w.drew):(Code.region id l.toArray true).wp P Q a w:=by
 have hB':=hB
 simp only[Bn,bB,decide_eq_true_eq] at hB'
 obtain⟨⟨⟨⟨hn,hs⟩,hc⟩,hA⟩,_⟩:=hB'
 refine wp_region_any hm ?_
 have hsz:(l.take n).toArray.size=n:=by simp;omega
 have h0:=h hS
 rw[hL] at h0
 have h1:=wpAny_of_held _ _ _ _ h0
 have inv0:HeadInv .any l.toArray n (Array.replicate l.toArray.size false):=
  ⟨sI,fun j oj _ hl=>(by rw[getD_replicate_false] at hl;cases hl),fun t _ ht=>getD_in (by simpa using ht) (getD_replicate_false _ _)⟩
 have rel0:kF l n (List.replicate n false).toArray (Array.replicate l.toArray.size false):=
  ⟨sI,sI,fun i hi=>by
    have h1:i<l.length:=om
    simp[h1,hi,Array.getElem?_replicate],fun t _ ht=>getD_in (by simpa using ht) (getD_replicate_false _ _)⟩
 have h2:=cut_any (Q:=Q) hB _ _ _ a w.drew rel0 inv0 h1
 have e:(l.drop n).length+n=l.toArray.size:=by simp;omega
 rw[e] at h2
 exact h2
theorem cut_take {S:World→Prop} {Q:Exit→Act→World→Prop} {i:Nat} {oi:Oper} {v:Value} {fuel:Nat} {listed:Array Bool} {a:Act} {w:World} (hi:l[i]?=some oi)
 (hs:Region.noSelect l.toArray=true) (hf:Region.free md l.toArray listed i=true) (hr:(Region.ready md l.toArray listed).contains i=true)
 (hQ: ∀c a w,Q (.panic c) (a.put oi.dst v) w→Q (.panic c) a w) (hy:YieldsIf P l.toArray S oi v a) (hS:S w)
 (h:wpAnyH P md l.toArray Q S fuel (listed.setIfInBounds i true) (a.put oi.dst v) w):wpAnyH P md l.toArray Q S (fuel+1) listed a w:=
 wpAnyH_take (by simpa using hi) hs hf hr hQ hy hS h
theorem ctk {S:World→Prop} {Q:Exit→Act→World→Prop} {i:Nat} {oi:Oper} {v:Value} {fuel:Nat} {listed:Array Bool} {a:Act} {w:World} (hi:l[i]?=some oi)
 (hQ: ∀c a w,Q (.panic c) (a.put oi.dst v) w→Q (.panic c) a w) (hy:YieldsIf P l.toArray S oi v a)
 (h:wpAnyH P md l.toArray Q S fuel (listed.setIfInBounds i true) (a.put oi.dst v) w) (hs:Region.noSelect l.toArray=true:=by kernel_rfl) (hf:Region.free md l.toArray listed i=true:=by kernel_rfl) (hr:(Region.ready md l.toArray listed).contains i=true:=by kernel_rfl) (hS:S w:=by assumption):wpAnyH P md l.toArray Q S (fuel+1) listed a w:=
 cut_take hi hs hf hr hQ hy hS h
theorem pA {α:Type} (l:List α) (i:Nat) (x:α):l.toArray.setIfInBounds i x=(l.set i x).toArray:=List.setIfInBounds_toArray ..
theorem pZ {α:Type} (a:α) (l:List α) (x:α):(a::l).set 0 x=x::l:=List.set_cons_zero ..
theorem pS {α:Type} (a:α) (l:List α) (i:Nat) (x:α):(a::l).set (i+1) x=a::l.set i x:=List.set_cons_succ ..
theorem ig {l:List Oper} {i:Nat} {o:Oper} (ho:l[i]?=some o):l.toArray[i]?=some o:=by simpa using ho
end
end
section
open Go.RowKit Go.Maps
attribute [local go_sem ↓] aO aP
theorem snew_ok (pz e:Nat) (w:World) (e1:1≤e) (e2:e≤64):
 Calls Tryz.prog 20 #[.pointer (some ⟨pz,0,none⟩),.int .i64 e] w fun r w'=>r= .returned (.tuple #[.pointer (some ⟨w.heap.size,0,none⟩),.nilIface])∧w'=w.alloc (.cells #[.pointer (some ⟨pz,0,none⟩),.int .i64 e,.slice none 0 0] 200):=by
 have d1:decide ((e:Int)<1)=false:=decide_eq_false om
 have d2:decide ((64:Int)<e)=false:=decide_eq_false om
 have d3:decide (64<e)=false:=decide_eq_false om
 go_enter Tryz.func20,Tryz.ntmps20
 go_wp2
 go_ret2
 exact⟨rfl,rfl⟩
section
variable {B:Nat} {ev:Nat→Addr} {pc pz e:Nat} {mn lw hi:Int} {O:List (List Int)} {X:List Nat} {vs:Value} {A:SA} {c:Ca} {w:World}
theorem cnode_ok (h:CS B w pc pz mn lw hi O e X vs A c) (v:Nat) (hv:v<c.L.length):
 Calls Tryz.prog 115 #[.pointer (some ⟨pc,0,none⟩),.int .i64 v] w fun r w'=>r= .returned .nilIface∧Below w.heap.size w w':=by
 obtain⟨x,hx⟩: ∃x,c.L[v]?=some x:=⟨c.L[v],aA _⟩
 have FR:=ah (zq pz mn lw hi O c.L v x w h.z.toB hx)
 have c0:=h.ch.c.c 0 _ rfl;have cl:=h.ch.c.lt
 clear h hx
 go_enter Tryz.func115,Tryz.ntmps115
 go_wp2_with fail
 refine FR.out.mono ?_
 rintro r w1 ⟨rfl,hb1⟩
 go_wp2
 go_ret
 exact⟨rfl,hb1⟩
theorem CG (hE:qV B ev w) (h:CS B w pc pz mn lw hi O e X vs A c) (v:Int) (hv:v<0∨(c.L.length:Int)≤v):
 Calls Tryz.prog 115 #[.pointer (some ⟨pc,0,none⟩),.int .i64 v] w fun r w'=>r= .returned (iJ ev 2)∧Below w.heap.size w w':=by
 have FR:=ah (vZ pz mn lw hi O c.L v w hE h.z.toB h.l0 hv)
 have c0:=h.ch.c.c 0 _ rfl;have cl:=h.ch.c.lt
 have e1:iJ ev 2= .iface 434 (.pointer (some (ev 2))):=rfl
 rw[e1] at FR ⊢
 clear h hv hE e1
 go_enter Tryz.func115,Tryz.ntmps115
 go_wp2_with fail
 refine FR.out.mono ?_
 rintro r w1 ⟨rfl,hb1⟩
 go_wp2
 go_ret
 exact⟨rfl,hb1⟩
def zx (B:Nat) (ev:Nat→Addr) (pc pz:Nat) (mn lw hi:Int) (O:List (List Int)) (e:Nat) (X:List Nat) (vs:Value) (A:SA) (c:Ca) (w:World) (L':List Nd) (q:Nat) (r:Ending) (w':World):Prop:=
 r= .returned (.tuple #[.pointer none,iJ ev q])∧CS B w' pc pz mn lw hi O e X vs A ⟨L',c.C⟩∧Keep (ys c.L) w w'
theorem cgrow_no (v:Int) (u:Bool) (hE:qQ B ev w) (h:CS B w pc pz mn lw hi O e X vs A c) (L':List Nd) (q:Nat) (nd pg k:Int) (ht:iQ mn O c.L v 0 u=(L',q+1,(nd,pg,k))):
 Calls Tryz.prog 116 #[.pointer (some ⟨pc,0,none⟩),.int .i64 v,.bool u] w (zx B ev pc pz mn lw hi O e X vs A c w L' (q+1)):=by
 have TK:=wm pz mn lw hi O c.L v 0 u w hE h.z.toB h.l0
 have SZ:=ah (lH mn O c.L v 0 u)
 rw[ht] at TK SZ
 have HT:=ah TK;have HH:=ah h
 have c0:=h.ch.c.c 0 _ rfl;have cl:=h.ch.c.lt
 obtain⟨vv,hvv⟩: ∃vv,vv=ev (q+1):=⟨_,rfl⟩
 have e1:iJ ev (q+1)= .iface 434 (.pointer (some vv)):=by rw[hvv];rfl
 unfold zx
 rw[e1]
 have E1:=ah e1
 clear h TK e1 hvv ht
 go_enter Tryz.func116,Tryz.ntmps116
 go_wp2_with fail
 refine HT.out.mono ?_
 rintro r w1 ⟨hr,hz1,hk1⟩
 simp only[E1.out,plV] at hr
 subst hr
 have H1:=ah (HH.out.zone hk1 hz1 SZ.out)
 have HK1:=ah hk1
 have z1:=hk1.size
 clear hz1 hk1
 go_wp2
 go_ret2
 exact⟨rfl,H1.out.below iq,HK1.out.step iq⟩
theorem CJ {P:Program} {ops:Array Oper} {o:Oper} {a:Act} {w:World} {K:Act→World→Prop} {Q:Exit→Act→World→Prop} {E:Prop}
 (hg:o.guard=none) (t:TypeId) (x y:Operand) (hop:o.op=Op.makeSlice t x y) (u v:Value) (hx:a.eval x=u) (hy:a.eval y=v) {v':Value} {w':World} (hr:(Instr.makeSlice t u v).run P w= .ok v' w') (hK:K (a.put o.dst v') w'):
 if Region.wanted o (yielded ops a.tmps)=true then Oper.wp P o a w K Q else E:=by
 have hw:Region.wanted o (yielded ops a.tmps)=true:=by simp[Region.wanted,hg]
 rw[if_pos hw]
 unfold Oper.wp
 simp[execOp,hop,hx,hy,hr,Result.andThen]
 exact hK
theorem Ay (e:Nat):madeCells (Value.bool false).cells (iG e)=(bools (iM e)).toArray:=by
 unfold madeCells bools iM
 apply Array.ext
 ·simp[Value.cells]
 ·intro i h1 h2
  simp[Value.cells,Nat.mod_one]
def GrowYes (B:Nat) (pc pz:Nat) (mn lw hi:Int) (O:List (List Int)) (e:Nat) (X:List Nat) (vs:Value) (A:SA) (c:Ca) (w:World) (L':List Nd) (s:Sl) (r:Ending) (w':World):Prop:=
 ∃p X' v' A',r= .returned (.tuple #[.pointer (some ⟨p.1,0,none⟩),.nilIface])∧CS B w' pc pz mn lw hi O e X' v' A' ⟨L',qP c.C s⟩∧A'[mF s.nd s.pg c.C]?=some p∧Keep (cay pc vs A++ys c.L) w w'∧(∀x∈X,x∈X')∧(∀x∈X',x∈X∨w.heap.size≤x)∧∀y∈cay pc v' A',y∈cay pc vs A∨w.heap.size≤y
theorem CK (v:Int) (u:Bool) (hE:qQ B ev w) (h:CS B w pc pz mn lw hi O e X vs A c) (hI:nS e c) (hB:B≤w.heap.size) (L':List Nd) (nd pg:Int) (ht:iQ mn O c.L v 0 u=(L',0,(nd,pg,0))):
 Calls Tryz.prog 116 #[.pointer (some ⟨pc,0,none⟩),.int .i64 v,.bool u] w (GrowYes B pc pz mn lw hi O e X vs A c w L' ⟨nd,pg,iM e⟩):=by
 obtain⟨qv,kv,evs,_⟩:=h.ch.form
 subst evs
 have TK:=wm pz mn lw hi O c.L v 0 u w hE h.z.toB h.l0
 have SZ:=ah (lH mn O c.L v 0 u)
 rw[ht] at TK SZ
 have HT:=ah TK;have HH:=ah h
 have c0:=h.ch.c.c 0 _ rfl;have cl:=h.ch.c.lt
 have HI:=ah hI
 have e1:=hI.e1;have e2:=hI.e2
 clear h TK ht hI
 go_enter Tryz.func116,Tryz.ntmps116
 go_wp2_with fail
 refine HT.out.mono ?_
 rintro r w1 ⟨hr,hz1,hk1⟩
 simp only[plV,iJ] at hr
 subst hr
 have H1:=HH.out.zone hk1 hz1 SZ.out
 have HK1:=ah hk1
 have z1:=hk1.size
 have k1:=H1.ch.c.c 1 _ rfl;have k2:=H1.ch.c.c 2 _ rfl;have kl:=H1.ch.c.lt
 have H1':=ah H1
 clear hz1 hk1 H1 c0 cl
 go_wp2_with fail
 obtain⟨W2,hW2⟩: ∃W2,W2=w1.alloc (.cells #[.int .i64 nd,.int .i64 pg,.int .i64 0] 61):=⟨_,rfl⟩
 rw[←hW2]
 have P2:gX W2 w1.heap.size [.int .i64 nd,.int .i64 pg,.int .i64 0]:=by rw[hW2];exact gX.mk_ w1 [.int .i64 nd,.int .i64 pg,.int .i64 0] 61 rfl
 have b2:Below w1.heap.size w1 W2:=by rw[hW2];exact iq
 have s2:W2.heap.size=w1.heap.size+1:=by rw[hW2];simp
 clear hW2
 have p0:=P2.c 0 _ rfl;have p1:=P2.c 1 _ rfl;have p2:=P2.c 2 _ rfl;have pl:=P2.lt
 have g1:W2.cell? ⟨pc,1,none⟩=some (.int .i64 e):=(b2.cell (p:=⟨pc,1,none⟩) kl).trans k1
 have g2:W2.cell? ⟨pc,2,none⟩=some (.slice qv c.C.length kv):=(b2.cell (p:=⟨pc,2,none⟩) kl).trans k2
 have gl:pc<W2.heap.size:=om
 have en0: ¬((e:Int)=0):=om
 have en1: ¬(e=0):=om
 have hq0:(64:Int) / (e:Int)=(iG e:Int):=by unfold iG;rw[Int.natCast_ediv];rfl
 have hq:(64:Int).tdiv (e:Int)=(iG e:Int):=by rw[fI om];exact hq0
 have r64:iG e≤64:=by unfold iG;exact fO _ _
 have hwr:IntKind.i64.wrap ((iG e:Nat):Int)=(iG e:Int):=bU _ om
 have MK:Hid (∀W:World,(Instr.makeSlice 209 (.int .i64 (iG e:Nat)) (.int .i64 (iG e:Nat))).run Tryz.prog W= .ok (.slice (some ⟨W.heap.size,0,none⟩) (iG e) (iG e)) (W.alloc (.cells (bools (iM e)).toArray 4))):=fun W=>by
  obtain⟨i0,hi0,hz0,hzs,hzb⟩:=info_parts (P:=Tryz.prog) (e:=4) (z:=.bool false) (size:=1) (bytes:=1) kR
  have:=run_make (P:=Tryz.prog) W 209 4 i0 _ Tryz.underlying209 hi0 hz0 .i64 .i64 (iG e:Nat) (iG e:Nat) om (bZ _) (by rw[hzb];omega) om
  rw[this,hzs]
  simp only[bV,Nat.mul_one]
  have em:madeCells (Value.bool false).cells (iG e)=(bools (iM e)).toArray:=Ay e
  rw[em]
 refine iN (S:=(fun w'=>w'.cell? ⟨w1.heap.size,0,none⟩=some (.int .i64 nd)∧w'.cell? ⟨w1.heap.size,1,none⟩=some (.int .i64 pg)∧w'.cell? ⟨w1.heap.size,2,none⟩=some (.int .i64 0)∧w'.cell? ⟨pc,1,none⟩=some (.int .i64 e))) 9 #[false,false,false,false,false,false,false,false,false] rfl kR kR (by(try dsimp only);go_keep) (fun hHeld=> ?_)
 simp only[aT,bq]
 refine ctk (i:=0) (v:= ?_) rfl (fun _ _ _ h=>h) (Or.inl ⟨rf,?_⟩) ?_
 rotate_left
 ·(intro w hSw;(try dsimp only at hSw);go_simp<;>with_reducible rfl)
 try simp only[Act.put,pA,pZ,pS]
 refine ctk (i:=1) (v:= ?_) rfl (fun _ _ _ h=>h) (Or.inl ⟨rf,?_⟩) ?_
 rotate_left
 ·(intro w hSw;(try dsimp only at hSw);go_simp<;>with_reducible rfl)
 try simp only[Act.put,pA,pZ,pS]
 refine ctk (i:=2) (v:= ?_) rfl (fun _ _ _ h=>h) (Or.inl ⟨rf,?_⟩) ?_
 rotate_left
 ·(intro w hSw;(try dsimp only at hSw);go_simp<;>with_reducible rfl)
 try simp only[Act.put,pA,pZ,pS]
 refine ctk (i:=3) (v:= ?_) rfl (fun _ _ _ h=>h) (Or.inl ⟨rf,?_⟩) ?_
 rotate_left
 ·(intro w hSw;(try dsimp only at hSw);go_simp<;>with_reducible rfl)
 try simp only[Act.put,pA,pZ,pS]
 refine ctk (i:=4) (v:= ?_) rfl (fun _ _ _ h=>h) (Or.inl ⟨rf,?_⟩) ?_
 rotate_left
 ·(intro w hSw;(try dsimp only at hSw);go_simp<;>with_reducible rfl)
 try simp only[Act.put,pA,pZ,pS]
 refine ctk (i:=5) (v:= ?_) rfl (fun _ _ _ h=>h) (Or.inl ⟨rf,?_⟩) ?_
 rotate_left
 ·(intro w hSw;(try dsimp only at hSw);go_simp<;>with_reducible rfl)
 try simp only[Act.put,pA,pZ,pS]
 refine wpAnyH_ready (rs:=[6]) kR sI ?_
 refine aS (ig rfl) (fun K hK=> ?_) aV
 refine CJ rf 209 (.tmp 31) (.tmp 31) rf _ _ rf rf (MK.out _) ?_
 refine hK.out _ _ (by(try dsimp only);go_keep) (fun hHeld=> ?_)
 clear hK K
 try simp only[Act.put,pA,pZ,pS]
 refine ctk (i:=7) (v:= ?_) rfl (fun _ _ _ h=>h) (Or.inl ⟨rf,?_⟩) ?_
 rotate_left
 ·(intro w hSw;(try dsimp only at hSw);go_simp<;>with_reducible rfl)
 try simp only[Act.put,pA,pZ,pS]
 refine wpAnyH_ready (rs:=[8]) kR sI ?_
 refine aS (ig rfl) (fun K hK=> ?_) aV
 go_simp
 refine hK.out _ _ (by(try dsimp only);go_keep) (fun hHeld=> ?_)
 clear hK K
 try simp only[Act.put,pA,pZ,pS]
 refine wpAnyH_done kR ?_ _
 simp only[kH,aL,aW]
 go_wp2_with fail
 have nl:(iM e).length=iG e:=by unfold iM;simp
 obtain⟨W3,hW3⟩: ∃W3,W3=((W2.alloc (.cells (bools (iM e)).toArray 4)).alloc (.cells #[.int .i64 nd,.int .i64 pg,.int .i64 0,.slice (some ⟨w1.heap.size+1,0,none⟩) (iG e) (iG e),.int .i64 0] 211)).drew:=⟨_,rfl⟩
 rw[←hW3]
 have LG:gX W3 (w1.heap.size+1) (bools (iM e)):=by
  rw[hW3];exact((gX.mk_ W2 (bools (iM e)) 4 s2).past _).jO
 have LS:gX W3 (w1.heap.size+1+1) [.int .i64 nd,.int .i64 pg,.int .i64 0,.slice (some ⟨w1.heap.size+1,0,none⟩) (iG e) (iG e),.int .i64 0]:=by
  rw[hW3];exact(gX.mk_ (W2.alloc (.cells (bools (iM e)).toArray 4)) [.int .i64 nd,.int .i64 pg,.int .i64 0,.slice (some ⟨w1.heap.size+1,0,none⟩) (iG e) (iG e),.int .i64 0] 211 (by simp[s2])).jO
 have b3:Below W2.heap.size W2 W3:=by rw[hW3];exact iq
 have s3:W3.heap.size=w1.heap.size+1+1+1:=by rw[hW3];simp[s2]
 have SB3:=ah (show lK W3 (w1.heap.size+1+1,w1.heap.size+1) ⟨nd,pg,iM e⟩ from⟨by
  have e0:jh ⟨nd,pg,iM e⟩ (w1.heap.size+1)=[.int .i64 nd,.int .i64 pg,.int .i64 0,.slice (some ⟨w1.heap.size+1,0,none⟩) (iG e) (iG e),.int .i64 0]:=by
   have m0:iC ⟨nd,pg,iM e⟩=0:=qx e
   unfold jh;rw[m0];simp[nl]
  show gX W3 (w1.heap.size+1+1) (jh ⟨nd,pg,iM e⟩ (w1.heap.size+1))
  rw[e0];exact LS,LG⟩)
 have B13:=ah (show Below w1.heap.size w1 W3 from b2.trans (b3.mono om))
 have q0:=(P2.go b3).c 0 _ rfl;have q1:=(P2.go b3).c 1 _ rfl;have q2:=(P2.go b3).c 2 _ rfl;have ql:=(P2.go b3).lt
 have x2:W3.cell? ⟨pc,2,none⟩=some (.slice qv c.C.length kv):=(b3.cell (p:=⟨pc,2,none⟩) gl).trans g2
 have xl:pc<W3.heap.size:=om
 obtain⟨i,hi⟩: ∃i,i=mF nd pg c.C:=⟨_,rfl⟩
 have hil:i≤c.C.length:=by rw[hi];exact sj _ _ _
 have few:=HI.out.few
 have LA:=H1'.out.ch.len
 have BS:Hid (∀W,Below W3.heap.size W3 W→Calls Tryz.prog 211 #[.slice qv c.C.length kv,.agg #[.int .i64 nd,.int .i64 pg,.int .i64 0],.func (.func 212) #[] #[]] W fun r w'=>r= .returned (.tuple #[.int .i64 i,.bool (hitS nd pg c.C)])∧Below W.heap.size W w'):=fun W b=>by
  rw[hi]
  exact Av nd pg W (H1'.out.ch.below (B13.out.trans (b.mono om))) HI.out.srt few
 have IN:Hid (∀W vb,Below W3.heap.size W3 W→Row1 W vb 208 [.pointer (some ⟨w1.heap.size+1+1,0,none⟩)]→W3.heap.size≤vb→Calls Tryz.prog 214 #[.slice qv c.C.length kv,.int .i64 i,.slice (some ⟨vb,0,none⟩) 1 1] W (nk B (.slice qv c.C.length kv) (lJ A) i (.pointer (some ⟨w1.heap.size+1+1,0,none⟩)) W)):=fun W vb b hr hvb=>by
  have hc:=H1'.out.ch.below (B13.out.trans (b.mono om))
  have el:c.C.length=(lJ A).length:=by rw[qI,LA]
  have ho:W.ownsRow B 208 1 (.slice qv c.C.length kv) (lJ A).length (lJ A):=by rw[←el];exact hc.row
  rw[el] at ho
  rw[el]
  refine sins_ok (.slice qv (lJ A).length kv) i (lJ A) _ vb W ho (by rw[←el];exact hil) (Ct A) rfl (by rw[←el];omega) hr (fun q=> ?_) (by have:=b.size;have:=HK1.out.size;omega)
  rw[←el] at q
  have:=(H1'.out.ch.lim vb (au _ (av _ q))).2
  omega
 have HIP:=ah hi;have S3:=ah s3
 clear s3 P2 p0 p1 p2 pl g1 g2 gl en0 en1 hq0 hq hwr MK b2 b3 LG LS hW3 k1 k2 kl hi hHeld nl r64
 refine iw kR kR ?_
 repeat(go_big_quiet_step (((go_at_call 211;exact Calls.behind (BS.out _ (Behind.h _))))))
 refine wpQuiet_nil ?_
 intro w4 hw'
 have hb4:=iR hw'
 clear hw'
 obtain⟨c4,f4⟩:=rG hb4;have z4:=hb4.size;try simp at z4 c4 f4
 have B14:=ah (B13.out.trans (hb4.mono (by have:=S3.out;omega)))
 have HB4:=ah hb4
 have HC4:=ah (H1'.out.ch.below B14.out)
 have y2:=HC4.out.c.c 2 _ rfl;have yf:=HC4.out.c.f 2 sI;have yl:=HC4.out.c.lt
 have S4:=ah z4
 have SB4:=ah (SB3.out.keep (Keep.of (S:=[]) hb4) sI sI)
 clear q0 q1 q2 ql x2 xl z4 hb4
 go_wp2_with fail
 obtain⟨W5,hW5⟩: ∃W5,W5=w4.alloc (.cells #[.pointer (some ⟨w1.heap.size+1+1,0,none⟩)] 208):=⟨_,rfl⟩
 rw[←hW5]
 have R5:Row1 W5 w4.heap.size 208 [.pointer (some ⟨w1.heap.size+1+1,0,none⟩)]:=⟨_,by rw[hW5];exact World.alloc_heap_new w4 _,rfl⟩
 have b5:Below w4.heap.size w4 W5:=by rw[hW5];exact iq
 clear hW5
 have HB5:=ah b5
 refine(IN.out W5 w4.heap.size (HB4.out.trans (b5.mono (by have:=S4.out;omega))) R5 (by have:=S4.out;omega)).mono ?_
 rintro r w6 ⟨q6,k6,rfl,hown6,hk6,hv6⟩
 have HC5:=HC4.out.below b5
 have hpv:pc∉gY (.slice qv c.C.length kv):=fun q=>(aR.1 HC5.nd).1 (av _ q)
 have C6:=HC5.c.keep hk6 hpv
 have u2:=C6.c 2 _ rfl;have uf:=C6.f 2 sI;have ul:=C6.lt
 have HO6:=ah hown6;have HK6:=ah hk6;have HV6:=ah hv6;have HC5':=ah HC5
 clear hown6 hk6 hv6 HC5 C6 R5 b5 y2 yf yl hpv
 go_wp2
 go_ret2
 have el:(lJ A).length=c.C.length:=by rw[qI,LA]
 have s3:=S3.out;have s4:=S4.out;have zk:=HK1.out.size
 have own6:=HO6.out
 have v6:=HV6.out
 rw[←Cu A i (w1.heap.size+1+1,w1.heap.size+1)] at own6
 simp only[el] at own6 v6 ⊢
 have lmc:=H1'.out.ch.lim
 have lmz:=H1'.out.z.b.lim
 obtain⟨n1,n2,n3⟩:=HC5'.out.ins (w1:=w6) (w':=w6.setCell ⟨pc,2,none⟩ (.slice q6 (c.C.length+1) k6)) (p:=(w1.heap.size+1+1,w1.heap.size+1)) (i:=i) (s:=⟨nd,pg,iM e⟩) (n:=0) hil HK6.out own6 rfl (SB4.out.keep (Keep.of (S:=[]) HB5.out) sI sI) (fun q=>by have:=(lmc _ q).2;omega) (fun q=>by have:=(lmc _ q).2;omega) sI (by show B≤_;omega) (by show B≤_;omega) v6
 have z5:=HB5.out.size
 refine⟨(w1.heap.size+1+1,w1.heap.size+1),_,_,_,rfl,⟨?_,by unfold qP;rw[←HIP.out];exact n1,fun y hy=> ?_,H1'.out.l0⟩,?_,?_,?_,?_,?_⟩
 ·have zA:=H1'.out.z.more (Y:=(w1.heap.size+1+1)::(w1.heap.size+1)::X) (fun x hx=>by simp[hx]) (fun y hy=>by
   simp at hy
   rcases hy with rfl|rfl|hy
   ·exact .inr om
   ·exact .inr om
   ·exact .inl hy)
  have zB:=zA.below (B14.out.trans (HB5.out.mono om))
  have zC:=zB.more (Y:=(w1.heap.size+1+1)::(w1.heap.size+1)::(gY (.slice q6 (c.C.length+1) k6)++X)) (fun x hx=>by
   simp at hx ⊢
   rcases hx with h|h|h
   ·simp[h]
   ·simp[h]
   ·simp[h]) (fun y hy=>by
   simp only[aB,aC] at hy ⊢
   rcases hy with h|h|h|h
   ·exact .inl (.inl h)
   ·exact .inl (.inr (.inl h))
   ·rcases v6 y h with t|t
    ·exact .inl (.inr (.inr (H1'.out.ch.mem y (au _ (av _ t)))))
    ·exact .inr t
   ·exact .inl (.inr (.inr h)))
  exact zC.keep n2 (fun s hs=>.inl ⟨by
   have:s∈X:=H1'.out.ch.mem s (by
    rcases aB.1 hs with t|t
    ·subst t;exact aG ..
    ·exact au _ (av _ t))
   simp[this],H1'.out.ne s (by
    rcases aB.1 hs with t|t
    ·subst t;exact aG ..
    ·exact au _ (av _ t))⟩)
 ·intro q
  have ql:y<w1.heap.size:=(lmz y q).2
  rcases n3 y (by rw[HIP.out] at hy ⊢;exact hy) with t|t|t|t
  ·exact H1'.out.ne y t q
  ·simp at t;omega
  ·simp at t;omega
  ·omega
 ·show(A.take i++_::A.drop i)[mF nd pg c.C]?=_
  have la:i≤A.length:=by have:A.length=c.C.length:=LA;omega
  rw[←HIP.out,uN la i]
  simp
 ·refine Keep.then (b:=W5) ((HK1.out.mono (fun y q=>aj _ q)).step (B14.out.trans (HB5.out.mono om))) (n2.mono (fun y q=>av _ ?_))
  rcases aB.1 q with t|t
  ·subst t;exact aG ..
  ·exact au _ (av _ t)
 ·intro x hx
  simp[hx]
 ·intro x hx
  simp only[aB,aC] at hx
  rcases hx with h|h|h|h
  ·exact .inr om
  ·exact .inr om
  ·rcases v6 x h with t|t
   ·exact .inl (H1'.out.ch.mem x (au _ (av _ t)))
   ·exact .inr om
  ·exact .inl h
 ·intro y hy
  rcases n3 y hy with t|t|t|t
  ·exact .inl t
  ·exact .inr (by simp at t;omega)
  ·exact .inr (by simp at t;omega)
  ·exact .inr om
end
end
section
open Go
section
variable {P:Program} {md:Region.Mode} {l:List Oper} {n:Nat}
def Bp (md:Region.Mode) (l:List Oper) (n:Nat):Bool:=
 decide (n<l.length)&&Region.sinkB md l.toArray n&&Region.chainB md l.toArray n&&
 ((List.range n).all fun j=>match l[j]? with
   |some o=>(o.after.all fun e=>decide (e.on<j)||(decide (e.on<n)&& !Region.binds md e))&&(match o.guard with|some (g,_)=>decide (g<n)|none=>true)
   |none=>false)&&
 Region.seqB md l.toArray (l.length-n) n (List.replicate n true++List.replicate (l.length-n) false).toArray
theorem uq {listed L:Array Bool} (hB:Bp md l n=true) (h:kF l n listed L) {i:Nat} (hi:i<n):
 i∈Region.ready md l.toArray L↔i∈Region.ready md (l.take n).toArray listed:=by
 simp only[Bp,bB,decide_eq_true_eq] at hB
 obtain⟨⟨⟨⟨hn,_⟩,_⟩,hA⟩,_⟩:=hB
 have hAi:=dG.1 hA i (dI.2 hi)
 rw[mem_ready,mem_ready,h.getD hi true]
 have e1:(l.take n).toArray[i]?=l.toArray[i]?:=by simp[hi]
 rw[e1]
 refine and_congr_right fun _=>exists_congr fun o=>and_congr_right fun ho=> ?_
 have ho':l[i]?=some o:=by simpa using ho
 rw[ho'] at hAi
 simp only[bB] at hAi
 have hE:=dH.1 hAi.1
 exact forall_congr' fun e=>forall_congr' fun he=>forall_congr' fun _=>by
  rw[h.getD (by
   have:=hE e he
   simp at this
   omega)]
theorem yF {o:Oper} {tmps:Array Value} (hB:Bp md l n=true) {i:Nat} (hi:i<n) (ho:l[i]?=some o):
 Region.wanted o (yielded (l.take n).toArray tmps)=Region.wanted o (yielded l.toArray tmps):=by
 simp only[Bp,bB,decide_eq_true_eq] at hB
 obtain⟨⟨⟨⟨hn,_⟩,_⟩,hA⟩,_⟩:=hB
 have hAi:=dG.1 hA i (dI.2 hi)
 rw[ho] at hAi
 simp only[bB] at hAi
 unfold Region.wanted
 cases hg:o.guard with
 |none=>rfl
 |some p=>
  obtain⟨g,b⟩:=p
  have hgn:g<n:=by
   have:=hAi.2
   rw[hg] at this
   simpa using this
  have e1:yielded (l.take n).toArray tmps g=yielded l.toArray tmps g:=by unfold yielded;simp[hgn]
  simp only[e1]
theorem cutf_all {listed L:Array Bool} (hB:Bp md l n=true) (h:kF l n listed L) (he:Region.ready md (l.take n).toArray listed=[]): ∀i,i<n→listed.getD i false=true:=by
 simp only[Bp,bB,decide_eq_true_eq] at hB
 obtain⟨⟨⟨⟨hn,_⟩,_⟩,hA⟩,_⟩:=hB
 intro i
 induction i using Nat.strongRecOn with
 |_ i ih=>
  intro hi
  cases hl:listed.getD i false with
  |true=>rfl
  |false=>
   have hAi:=dG.1 hA i (dI.2 hi)
   have hil:i<l.length:=om
   rw[aA hil] at hAi
   simp only[bB] at hAi
   have hE:=dH.1 hAi.1
   have:i∈Region.ready md (l.take n).toArray listed:=mem_ready.2 ⟨getD_in (by rw[h.s1];exact hi) hl,l[i],by simp[hi,hil],fun e he hb=>by
    have:=hE e he
    simp[hb] at this
    exact ih e.on this om⟩
   rw[he] at this
   cases this
theorem DF {Q:Exit→Act→World→Prop} {listed L:Array Bool} {a:Act} {w:World} (hB:Bp md l n=true) (h:kF l n listed L) (he:Region.ready md (l.take n).toArray listed=[])
 (hQ:wpList P l.toArray Q (l.drop n) a w):wpAny P md l.toArray Q (l.drop n).length L a w:=by
 have ha:=cutf_all hB h he
 simp only[Bp,bB,decide_eq_true_eq] at hB
 obtain⟨⟨⟨⟨hn,_⟩,_⟩,_⟩,hseq⟩:=hB
 have e:=zw h hn ha
 subst e
 exact wpAny_of_seq (l.drop n) n _ a w (fun j=>by simp[dh]) (by simpa using hseq) hQ
theorem cutf_any {Q:Exit→Act→World→Prop} (hB:Bp md l n=true):
 ∀(f:Nat) (listed L:Array Bool) (a:Act) (w:World),kF l n listed L→HeadInv md l.toArray n L→
  wpAny P md (l.take n).toArray (kH P l n Q) f listed a w→wpAny P md l.toArray Q ((l.drop n).length+f) L a w:=by
 have hB':=hB
 simp only[Bp,bB,decide_eq_true_eq] at hB'
 obtain⟨⟨⟨⟨hn,hs⟩,hc⟩,hA⟩,_⟩:=hB'
 intro f
 induction f with
 |zero=>
  intro listed L a w hr inv h
  exact DF hB hr h.1 h.2
 |succ f ih=>
  intro listed L a w hr inv h
  by_cases he:Region.ready md (l.take n).toArray listed=[]
  ·exact nZ _ (f+1) _ _ _ (DF hB hr he (h.1 he))
  ·obtain⟨i0,hi0⟩:=List.exists_mem_of_ne_nil _ he
   have hi0n:i0<n:=by
    obtain⟨_,o,ho,_⟩:=mem_ready.1 hi0
    have:=(fH.1 ho).1
    simp at this;omega
   have hun:L.getD i0 true=false:=by rw[hr.getD hi0n];exact(mem_ready.1 hi0).1
   have hin: ∀i∈Region.ready md l.toArray L,i<n:=fun i hi=>by
    rcases dx i n with q|q
    ·exact q
    ·exact absurd hi (tail_waits hs hc (by simpa using hn) inv _ i0 rfl hi0n hun i q)
   refine⟨fun h0=> ?_,fun i hi=> ?_⟩
   ·have:=(uq hB hr hi0n).2 hi0
    rw[h0] at this;cases this
   ·have hin':=hin i hi
    have h1:=h.2 i ((uq hB hr hin').1 hi)
    have hil:i<l.length:=om
    have e1:(l.take n).toArray[i]?=some l[i]:=by simp[hin',hil]
    have e2:l.toArray[i]?=some l[i]:=by simp[hil]
    have hst: ∀a' w',wpAny P md (l.take n).toArray (kH P l n Q) f (listed.setIfInBounds i true) a' w'→wpAny P md l.toArray Q ((l.drop n).length+f) (L.setIfInBounds i true) a' w':=
     fun a' w' h'=>ih _ _ a' w' (hr.set hin') (inv.set hi hin') h'
    unfold wpOp at h1 ⊢
    simp only[e1] at h1
    simp only[e2]
    rw[yF hB hin' (aA hil)] at h1
    split
    ·rename_i hw
     simp only[hw,if_true] at h1
     rcases h1 with h1|h1
     ·exact .inl (Oper.wp_mono hst (Cz h1))
     ·exact .inr ⟨h1.1,qJ h1.2⟩
    ·rename_i hw
     simp only[hw] at h1
     exact hst _ _ h1
theorem tu {S:World→Prop} {id:Nat} {Q:Exit→Act→World→Prop} {a:Act} {w:World} (n:Nat) (L:Array Bool) (hL:L=(List.replicate n false).toArray) (hm:P.follows .mixedOrders=true) (hB:Bp .any l n=true) (hS:S w.drew)
 (h:S w.drew→wpAnyH P .any (l.take n).toArray (kH P l n Q) S n L a w.drew):(Code.region id l.toArray true).wp P Q a w:=by
 have hB':=hB
 simp only[Bp,bB,decide_eq_true_eq] at hB'
 obtain⟨⟨⟨⟨hn,hs⟩,hc⟩,hA⟩,_⟩:=hB'
 refine wp_region_any hm ?_
 have hsz:(l.take n).toArray.size=n:=by simp;omega
 have h0:=h hS
 rw[hL] at h0
 have h1:=wpAny_of_held _ _ _ _ h0
 have inv0:HeadInv .any l.toArray n (Array.replicate l.toArray.size false):=
  ⟨sI,fun j oj _ hl=>(by rw[getD_replicate_false] at hl;cases hl),fun t _ ht=>getD_in (by simpa using ht) (getD_replicate_false _ _)⟩
 have rel0:kF l n (List.replicate n false).toArray (Array.replicate l.toArray.size false):=
  ⟨sI,sI,fun i hi=>by
    have h1:i<l.length:=om
    simp[h1,hi,Array.getElem?_replicate],fun t _ ht=>getD_in (by simpa using ht) (getD_replicate_false _ _)⟩
 have h2:=cutf_any (Q:=Q) hB _ _ _ a w.drew rel0 inv0 h1
 have e:(l.drop n).length+n=l.toArray.size:=by simp;omega
 rw[e] at h2
 exact h2
end
end
end Go.Proofs.YtdcbhlcbiokbeaaGreatDoor
