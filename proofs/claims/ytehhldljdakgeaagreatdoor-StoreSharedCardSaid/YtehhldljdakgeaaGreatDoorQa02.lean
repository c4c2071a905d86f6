/- Lemmas and contracts for the claim's last text: Lay, Cut, CutF. -/
import Derived.Test.YtehhldljdakgeaaGreatDoorQa01
set_option linter.unusedSimpArgs false
set_option linter.unusedVariables false
set_option maxHeartbeats 16000000
set_option maxRecDepth 100000
namespace Go.Proofs.YtehhldljdakgeaaGreatDoor
open Go.RowKit Go.Maps
attribute [local go_sem ↓] aJ aK
section
open Go.Shelf
def Tryz.keysA_ren:Go.Shelf.Ren:=⟨fun|7=>204|10=>209|n=>n,fun|23=>232|26=>3|3=>3|28=>167|0=>0|27=>166|33=>131|4=>4|n=>n,fun|n=>n⟩
theorem Tryz.keysA:Go.Proofs.SlLaysZI.n7 Tryz.prog Tryz.keysA_ren:={
 mixed:=kR
 f7:=⟨Tryz.f204.name,by decide,Tryz.func204.trans (congrArg some kR)⟩
 f10:=⟨Tryz.f209.name,by decide,Tryz.func209.trans (congrArg some kR)⟩
 t0:=Tryz.underlying0
 a0:=Tryz.isAgg0
 z0:=Tryz.sizeOf0
 v0:=Tryz.zeroValue0
 t4:=Tryz.underlying4
 a4:=Tryz.isAgg4
 z4:=Tryz.sizeOf4
 v4:=Tryz.zeroValue4
 t23:=gW
 a23:=Tryz.isAgg232
 z23:=Tryz.sizeOf232
 v23:=Tryz.zeroValue232
 t26:=bE
 a26:=iw
 z26:=gL
 v26:=jm
 t27:=Tryz.underlying166
 a27:=Tryz.isAgg166
 z27:=Tryz.sizeOf166
 v27:=Tryz.zeroValue166
 t28:=Tryz.underlying167
 a28:=Tryz.isAgg167
 z28:=Tryz.sizeOf167
 v28:=Tryz.zeroValue167
 t33:=Tryz.underlying131
 a33:=Tryz.isAgg131
 z33:=Tryz.sizeOf131
 v33:=Tryz.zeroValue131}
def Tryz.sortedA_ren:Go.Shelf.Ren:=⟨fun|6=>80|8=>114|9=>115|11=>144|13=>146|12=>145|23=>181|24=>182|14=>172|15=>173|16=>174|17=>175|18=>176|19=>177|20=>178|21=>179|22=>180|25=>198|26=>199|27=>200|28=>201|29=>202|30=>152|31=>207|n=>n,fun|26=>3|28=>167|24=>59|0=>0|3=>3|37=>275|48=>310|50=>312|4=>4|40=>303|39=>302|45=>264|5=>5|9=>9|51=>325|55=>329|57=>334|58=>121|33=>131|n=>n,fun|n=>n⟩
theorem Tryz.sortedA:Go.Proofs.SlLaysZI.n6 Tryz.prog Tryz.sortedA_ren:={
 mixed:=kR
 f6:=⟨Tryz.f80.name,by decide,Tryz.func80.trans (congrArg some kR)⟩
 f8:=⟨Tryz.f114.name,by decide,Tryz.func114.trans (congrArg some kR)⟩
 f11:=⟨Tryz.f144.name,by decide,Tryz.func144.trans (congrArg some kR)⟩
 t0:=Tryz.underlying0
 a0:=Tryz.isAgg0
 z0:=Tryz.sizeOf0
 v0:=Tryz.zeroValue0
 t24:=dJ
 a24:=Tryz.isAgg59
 z24:=Tryz.sizeOf59
 v24:=Tryz.zeroValue59
 t26:=bE
 a26:=iw
 z26:=gL
 v26:=jm
 t28:=Tryz.underlying167
 a28:=Tryz.isAgg167
 z28:=Tryz.sizeOf167
 v28:=Tryz.zeroValue167
 i26:=by kernel_rfl}
def Tryz.sortA_ren:Go.Shelf.Ren:=⟨fun|5=>115|8=>146|7=>145|19=>181|20=>182|10=>172|11=>173|12=>174|13=>175|14=>176|15=>177|16=>178|17=>179|18=>180|30=>198|31=>199|32=>200|33=>201|34=>202|35=>152|40=>207|n=>n,fun|23=>59|25=>3|3=>3|32=>275|22=>59|0=>0|44=>310|46=>312|4=>4|36=>303|35=>302|41=>264|5=>5|9=>9|53=>325|57=>329|63=>334|64=>121|n=>n,fun|n=>n⟩
theorem Tryz.sortA:Go.Proofs.SlLaysM.n5 Tryz.prog Tryz.sortA_ren:={
 mixed:=kR
 f5:=⟨Tryz.f115.name,by decide,Tryz.func115.trans (congrArg some kR)⟩
 f7:=⟨Tryz.f145.name,by decide,Tryz.func145.trans (congrArg some kR)⟩
 f8:=Tryz.func146.trans (congrArg some kR)
 f10:=⟨Tryz.f172.name,by decide,Tryz.func172.trans (congrArg some kR)⟩
 f11:=⟨Tryz.f173.name,by decide,Tryz.func173.trans (congrArg some kR)⟩
 f12:=⟨Tryz.f174.name,by decide,Tryz.func174.trans (congrArg some kR)⟩
 f13:=⟨Tryz.f175.name,by decide,Tryz.func175.trans (congrArg some kR)⟩
 f14:=⟨Tryz.f176.name,by decide,Tryz.func176.trans (congrArg some kR)⟩
 f15:=⟨Tryz.f177.name,by decide,Tryz.func177.trans (congrArg some kR)⟩
 f16:=⟨Tryz.f178.name,by decide,Tryz.func178.trans (congrArg some kR)⟩
 f17:=⟨Tryz.f179.name,by decide,Tryz.func179.trans (congrArg some kR)⟩
 f18:=⟨Tryz.f180.name,by decide,Tryz.func180.trans (congrArg some kR)⟩
 f19:=Tryz.func181.trans (congrArg some kR)
 f20:=Tryz.func182.trans (congrArg some kR)
 f30:=⟨Tryz.f198.name,by decide,Tryz.func198.trans (congrArg some kR)⟩
 f31:=Tryz.func199.trans (congrArg some kR)
 f32:=Tryz.func200.trans (congrArg some kR)
 f33:=⟨Tryz.f201.name,by decide,Tryz.func201.trans (congrArg some kR)⟩
 f34:=⟨Tryz.f202.name,by decide,Tryz.func202.trans (congrArg some kR)⟩
 f35:=⟨Tryz.f152.name,by decide,Tryz.func152.trans (congrArg some kR)⟩
 f40:=⟨Tryz.f207.name,by decide,Tryz.func207.trans (congrArg some kR)⟩
 t0:=Tryz.underlying0
 a0:=Tryz.isAgg0
 z0:=Tryz.sizeOf0
 v0:=Tryz.zeroValue0
 t3:=bE
 a3:=iw
 z3:=gL
 v3:=jm
 t4:=Tryz.underlying4
 a4:=Tryz.isAgg4
 z4:=Tryz.sizeOf4
 v4:=Tryz.zeroValue4
 t5:=Tryz.underlying5
 a5:=Tryz.isAgg5
 z5:=Tryz.sizeOf5
 v5:=Tryz.zeroValue5
 t9:=jh
 a9:=Tryz.isAgg9
 z9:=Tryz.sizeOf9
 v9:=Tryz.zeroValue9
 t22:=dJ
 a22:=Tryz.isAgg59
 z22:=Tryz.sizeOf59
 v22:=Tryz.zeroValue59
 t23:=dJ
 a23:=Tryz.isAgg59
 z23:=Tryz.sizeOf59
 v23:=Tryz.zeroValue59
 t25:=bE
 a25:=iw
 z25:=gL
 v25:=jm
 t32:=Tryz.underlying275
 a32:=Tryz.isAgg275
 z32:=Tryz.sizeOf275
 v32:=Tryz.zeroValue275
 t35:=Tryz.underlying302
 a35:=Tryz.isAgg302
 z35:=Tryz.sizeOf302
 v35:=Tryz.zeroValue302
 t36:=Tryz.underlying303
 a36:=Tryz.isAgg303
 z36:=Tryz.sizeOf303
 v36:=Tryz.zeroValue303
 t41:=Tryz.underlying264
 a41:=Tryz.isAgg264
 z41:=Tryz.sizeOf264
 v41:=Tryz.zeroValue264
 t44:=Tryz.underlying310
 a44:=Tryz.isAgg310
 z44:=Tryz.sizeOf310
 v44:=Tryz.zeroValue310
 t46:=Tryz.underlying312
 a46:=Tryz.isAgg312
 z46:=Tryz.sizeOf312
 v46:=Tryz.zeroValue312
 t53:=Tryz.underlying325
 a53:=Tryz.isAgg325
 z53:=Tryz.sizeOf325
 v53:=Tryz.zeroValue325
 t57:=Tryz.underlying329
 a57:=Tryz.isAgg329
 z57:=Tryz.sizeOf329
 v57:=Tryz.zeroValue329
 t63:=Tryz.underlying334
 a63:=Tryz.isAgg334
 z63:=Tryz.sizeOf334
 v63:=Tryz.zeroValue334
 t64:=Tryz.underlying121
 a64:=Tryz.isAgg121
 z64:=Tryz.sizeOf121
 v64:=Tryz.zeroValue121}
def Tryz.keysS_ren:Go.Shelf.Ren:=⟨fun|7=>81|10=>116|n=>n,fun|23=>158|26=>3|3=>155|28=>167|0=>0|27=>166|33=>131|4=>4|n=>n,fun|n=>n⟩
end
section
open Go
section
variable {P:Program} {md:Region.Mode} {l:List Oper} {n:Nat}
def Sm (md:Region.Mode) (l:List Oper) (n:Nat):Bool:=
 decide (n<l.length)&&Region.sinkB md l.toArray n&&Region.chainB md l.toArray n&&
 ((List.range n).all fun j=>match l[j]? with
   |some o=>(o.after.all fun e=>decide (e.on<j))&&(match o.guard with|some (g,_)=>decide (g<n)|none=>true)
   |none=>false)&&
 Region.seqB md l.toArray (l.length-n) n (List.replicate n true++List.replicate (l.length-n) false).toArray
def nX (P:Program) (l:List Oper) (n:Nat) (Q:Exit→Act→World→Prop):Exit→Act→World→Prop
 | .normal,a,w=>wpList P l.toArray Q (l.drop n) a w
 |e,a,w=>Q e a w
structure r9 (l:List Oper) (n:Nat) (listed L:Array Bool):Prop where
 s1:listed.size=n
 s2:L.size=l.length
 eq: ∀i,i<n→L[i]?=listed[i]?
 tl: ∀t,n≤t→t<l.length→L.getD t true=false
theorem CV {ops:Array Oper} {Q:Exit→Act→World→Prop}: ∀(f:Nat) (listed:Array Bool) (a:Act) (w:World),wpAny P md ops Q f listed a w→wpAny P md ops Q (f+1) listed a w
 |0,_,_,_,h=>⟨fun _=>h.2,fun i hi=>by rw[h.1] at hi;cases hi⟩
 |f+1,_,_,_,h=>⟨h.1,fun i hi=>wpOp_mono (fun a' w' h'=>CV f _ a' w' h') (h.2 i hi)⟩
theorem vW {ops:Array Oper} {Q:Exit→Act→World→Prop} (f k:Nat) (listed:Array Bool) (a:Act) (w:World) (h:wpAny P md ops Q f listed a w):wpAny P md ops Q (f+k) listed a w:=by
 induction k with
 |zero=>exact h
 |succ k ih=>exact CV _ _ _ _ ih
theorem yA {Q:Exit→Act→World→Prop} (h:LetsOut (nX P l n Q)):LetsOut Q:=h
theorem TV {o:Oper} {a:Act} {w:World} {K:Act→World→Prop} {Q:Exit→Act→World→Prop} (h:o.wp P a w K (nX P l n Q)):o.wp P a w K Q:=by
 unfold Oper.wp at*
 generalize(execOp a.eval o).run P w=r at*
 cases r with
 |ok m w'=>
  cases m<;>simp only[Oper.upon] at h ⊢ <;>first|exact h|exact Calls.mono h (fun e w'' he=>by cases e<;>exact he)
 |halt x w'=>cases x<;>simp only[Oper.upon] at h ⊢ <;>exact h
theorem r9.set {listed L:Array Bool} {i:Nat} (h:r9 l n listed L) (hi:i<n):r9 l n (listed.setIfInBounds i true) (L.setIfInBounds i true):=
 ⟨by simp[h.s1],by simp[h.s2],fun j hj=>by
   by_cases hij:i=j
   ·subst hij
    have h1:=h.s1;have h2:=h.s2;have h3:=h.eq i hi;by_cases hl:i<l.length
    ·simp[h1,h2,hi,hl]
    ·rw[fu om] at h3
     rw[iO om] at h3;cases h3
   ·simp[Array.getElem?_setIfInBounds_ne hij,h.eq j hj],fun t ht ht'=>by
   rw[getD_set_ne true om];exact h.tl t ht ht'⟩
theorem r9.getD {listed L:Array Bool} {i:Nat} (h:r9 l n listed L) (hi:i<n) (d:Bool):L.getD i d=listed.getD i d:=by
 have:=h.eq i hi;simp[this]
theorem Fy {listed L:Array Bool} (hB:Sm md l n=true) (h:r9 l n listed L) {i:Nat} (hi:i<n):
 i∈Region.ready md l.toArray L↔i∈Region.ready md (l.take n).toArray listed:=by
 simp only[Sm,bV,decide_eq_true_eq] at hB;obtain⟨⟨⟨⟨hn,_⟩,_⟩,hA⟩,_⟩:=hB;have hAi:=eP.1 hA i (fF.2 hi);rw[mem_ready,mem_ready,h.getD hi true];have e1:(l.take n).toArray[i]?=l.toArray[i]?:=by simp[hi]
 rw[e1];refine and_congr_right fun _=>exists_congr fun o=>and_congr_right fun ho=> ?_
 have ho':l[i]?=some o:=by simpa using ho
 rw[ho'] at hAi;simp only[bV] at hAi;have hE:=fD.1 hAi.1;exact forall_congr' fun e=>forall_congr' fun he=>forall_congr' fun _=>by
  rw[h.getD (by have:=of_decide_eq_true (hE e he);omega)]
theorem QI {o:Oper} {tmps:Array Value} (hB:Sm md l n=true) {i:Nat} (hi:i<n) (ho:l[i]?=some o):
 Region.wanted o (yielded (l.take n).toArray tmps)=Region.wanted o (yielded l.toArray tmps):=by
 simp only[Sm,bV,decide_eq_true_eq] at hB;obtain⟨⟨⟨⟨hn,_⟩,_⟩,hA⟩,_⟩:=hB;have hAi:=eP.1 hA i (fF.2 hi);rw[ho] at hAi;simp only[bV] at hAi;unfold Region.wanted;cases hg:o.guard with
 |none=>rfl
 |some p=>
  obtain⟨g,b⟩:=p;have hgn:g<n:=by
   have:=hAi.2;rw[hg] at this;simpa using this
  have e1:yielded (l.take n).toArray tmps g=yielded l.toArray tmps g:=by unfold yielded;simp[hgn]
  simp only[e1]
theorem NQ {listed L:Array Bool} (h:r9 l n listed L) (hn:n<l.length) (ha: ∀i,i<n→listed.getD i false=true):L=(List.replicate n true++List.replicate (l.length-n) false).toArray:=by
 apply Array.ext
 ·simp[h.s2];omega
 ·intro i h1 h2
  have hl:i<l.length:=by have:=h.s2;omega
  by_cases hi:i<n
  ·have e1:=h.eq i hi
   have e2:=ha i hi;have hs:i<listed.size:=by rw[h.s1];exact hi
   rw[iO h1,iO hs] at e1;have e3:listed[i]=true:=by simpa[hs] using e2
   have e4:=aI e1;rw[e4,e3];simp[List.getElem_append,hi]
  ·have e1:=h.tl i om hl
   have e3:L[i]=false:=by simpa[h1] using e1
   rw[e3];simp[List.getElem_append,hi]
theorem cut_all {listed L:Array Bool} (hB:Sm md l n=true) (h:r9 l n listed L) (he:Region.ready md (l.take n).toArray listed=[]): ∀i,i<n→listed.getD i false=true:=by
 simp only[Sm,bV,decide_eq_true_eq] at hB;obtain⟨⟨⟨⟨hn,_⟩,_⟩,hA⟩,_⟩:=hB;intro i;induction i using Nat.strongRecOn with
 |_ i ih=>
  intro hi;cases hl:listed.getD i false with
  |true=>rfl
  |false=>
   have hAi:=eP.1 hA i (fF.2 hi);have hil:i<l.length:=om;rw[aA hil] at hAi;simp only[bV] at hAi;have hE:=fD.1 hAi.1;have:i∈Region.ready md (l.take n).toArray listed:=mem_ready.2 ⟨getD_in (by rw[h.s1];exact hi) hl,l[i],by simp[hi,hil],fun e he _=>by
    have:=of_decide_eq_true (hE e he);exact ih e.on this om⟩
   rw[he] at this;cases this
theorem cut_go {Q:Exit→Act→World→Prop} {listed L:Array Bool} {a:Act} {w:World} (hB:Sm md l n=true) (h:r9 l n listed L) (he:Region.ready md (l.take n).toArray listed=[])
 (hQ:wpList P l.toArray Q (l.drop n) a w):wpAny P md l.toArray Q (l.drop n).length L a w:=by
 have ha:=cut_all hB h he;simp only[Sm,bV,decide_eq_true_eq] at hB;obtain⟨⟨⟨⟨hn,_⟩,_⟩,_⟩,hseq⟩:=hB;have e:=NQ h hn ha;subst e;exact wpAny_of_seq (l.drop n) n _ a w (fun j=>by simp[cK]) (by simpa using hseq) hQ
theorem cut_any {Q:Exit→Act→World→Prop} (hB:Sm md l n=true):
 ∀(f:Nat) (listed L:Array Bool) (a:Act) (w:World),r9 l n listed L→HeadInv md l.toArray n L→
  wpAny P md (l.take n).toArray (nX P l n Q) f listed a w→wpAny P md l.toArray Q ((l.drop n).length+f) L a w:=by
 have hB':=hB;simp only[Sm,bV,decide_eq_true_eq] at hB';obtain⟨⟨⟨⟨hn,hs⟩,hc⟩,hA⟩,_⟩:=hB';intro f;induction f with
 |zero=>
  intro listed L a w hr inv h;exact cut_go hB hr h.1 h.2
 |succ f ih=>
  intro listed L a w hr inv h;by_cases he:Region.ready md (l.take n).toArray listed=[]
  ·exact vW _ (f+1) _ _ _ (cut_go hB hr he (h.1 he))
  ·obtain⟨i0,hi0⟩:=List.exists_mem_of_ne_nil _ he
   have hi0n:i0<n:=by
    obtain⟨_,o,ho,_⟩:=mem_ready.1 hi0;have:=(iI.1 ho).1;simp at this;omega
   have hun:L.getD i0 true=false:=by rw[hr.getD hi0n];exact(mem_ready.1 hi0).1
   have hin: ∀i∈Region.ready md l.toArray L,i<n:=fun i hi=>by
    rcases dV i n with q|q
    ·exact q
    ·exact absurd hi (tail_waits hs hc (by simpa using hn) inv _ i0 rfl hi0n hun i q)
   refine⟨fun h0=> ?_,fun i hi=> ?_⟩
   ·have:=(Fy hB hr hi0n).2 hi0
    rw[h0] at this;cases this
   ·have hin':=hin i hi
    have h1:=h.2 i ((Fy hB hr hin').1 hi);have hil:i<l.length:=om;have e1:(l.take n).toArray[i]?=some l[i]:=by simp[hin',hil]
    have e2:l.toArray[i]?=some l[i]:=by simp[hil]
    have hst: ∀a' w',wpAny P md (l.take n).toArray (nX P l n Q) f (listed.setIfInBounds i true) a' w'→wpAny P md l.toArray Q ((l.drop n).length+f) (L.setIfInBounds i true) a' w':=
     fun a' w' h'=>ih _ _ a' w' (hr.set hin') (inv.set hi hin') h'
    unfold wpOp at h1 ⊢;simp only[e1] at h1;simp only[e2];rw[QI hB hin' (aA hil)] at h1;split
    ·rename_i hw
     simp only[hw,if_true] at h1;rcases h1 with h1|h1
     ·exact .inl (Oper.wp_mono hst (TV h1))
     ·exact .inr ⟨h1.1,yA h1.2⟩
    ·rename_i hw
     simp only[hw] at h1;exact hst _ _ h1
theorem jN {S:World→Prop} {id:Nat} {Q:Exit→Act→World→Prop} {a:Act} {w:World} (n:Nat) (L:Array Bool) (hL:L=(List.replicate n false).toArray) (hm:P.follows .mixedOrders=true) (hB:Sm .any l n=true) (hS:S w.drew)
 (h:S w.drew→wpAnyH P .any (l.take n).toArray (nX P l n Q) S n L a w.drew):(Code.region id l.toArray true).wp P Q a w:=by
 have hB':=hB;simp only[Sm,bV,decide_eq_true_eq] at hB';obtain⟨⟨⟨⟨hn,hs⟩,hc⟩,hA⟩,_⟩:=hB';refine wp_region_any hm ?_;have hsz:(l.take n).toArray.size=n:=by simp;omega
 have h0:=h hS;rw[hL] at h0;have h1:=wpAny_of_held _ _ _ _ h0;have inv0:HeadInv .any l.toArray n (Array.replicate l.toArray.size false):=
  ⟨sI,fun j oj _ hl=>(by rw[getD_replicate_false] at hl;cases hl),fun t _ ht=>getD_in (by simpa using ht) (getD_replicate_false _ _)⟩
 have rel0:r9 l n (List.replicate n false).toArray (Array.replicate l.toArray.size false):=
  ⟨sI,sI,fun i hi=>by
    have h1:i<l.length:=om;simp[h1,hi,Array.getElem?_replicate],fun t _ ht=>getD_in (by simpa using ht) (getD_replicate_false _ _)⟩
 have h2:=cut_any (Q:=Q) hB _ _ _ a w.drew rel0 inv0 h1;have e:(l.drop n).length+n=l.toArray.size:=by simp;omega
 rw[e] at h2;exact h2
theorem NU {S:World→Prop} {Q:Exit→Act→World→Prop} {i:Nat} {oi:Oper} {v:Value} {fuel:Nat} {listed:Array Bool} {a:Act} {w:World} (hi:l[i]?=some oi)
 (hs:Region.noSelect l.toArray=true) (hf:Region.free md l.toArray listed i=true) (hr:(Region.ready md l.toArray listed).contains i=true)
 (hQ: ∀c a w,Q (.panic c) (a.put oi.dst v) w→Q (.panic c) a w) (hy:YieldsIf P l.toArray S oi v a) (hS:S w)
 (h:wpAnyH P md l.toArray Q S fuel (listed.setIfInBounds i true) (a.put oi.dst v) w):wpAnyH P md l.toArray Q S (fuel+1) listed a w:=
 wpAnyH_take (by simpa using hi) hs hf hr hQ hy hS h
theorem ctk {S:World→Prop} {Q:Exit→Act→World→Prop} {i:Nat} {oi:Oper} {v:Value} {fuel:Nat} {listed:Array Bool} {a:Act} {w:World} (hi:l[i]?=some oi)
 (hQ: ∀c a w,Q (.panic c) (a.put oi.dst v) w→Q (.panic c) a w) (hy:YieldsIf P l.toArray S oi v a)
 (h:wpAnyH P md l.toArray Q S fuel (listed.setIfInBounds i true) (a.put oi.dst v) w) (hs:Region.noSelect l.toArray=true:=by kernel_rfl) (hf:Region.free md l.toArray listed i=true:=by kernel_rfl) (hr:(Region.ready md l.toArray listed).contains i=true:=by kernel_rfl) (hS:S w:=by assumption):wpAnyH P md l.toArray Q S (fuel+1) listed a w:=
 NU hi hs hf hr hQ hy hS h
theorem tk {S:World→Prop} {Q:Exit→Act→World→Prop} {oi:Oper} {v:Value} {fuel:Nat} {listed:Array Bool} {a:Act} {w:World} (i:Nat) (h:wpAnyH P md l.toArray Q S fuel (listed.setIfInBounds i true) (a.put oi.dst v) w) (hi:l[i]?=some oi:=by rfl)
 (hQ: ∀c a w,Q (.panic c) (a.put oi.dst v) w→Q (.panic c) a w:=by exact fun _ _ _ h=>h) (hg:Region.wanted oi (yielded l.toArray a.tmps)=true:=by rfl) (hy: ∀w,S w→(execOp a.eval oi).run P w= .ok (.value v) w:=by(intro w hSw;(try dsimp only at hSw);go_simp<;>with_reducible rfl))
 (hs:Region.noSelect l.toArray=true:=by kernel_rfl) (hf:Region.free md l.toArray listed i=true:=by kernel_rfl) (hr:(Region.ready md l.toArray listed).contains i=true:=by kernel_rfl) (hS:S w:=by assumption):wpAnyH P md l.toArray Q S (fuel+1) listed a w:=
 NU hi hs hf hr hQ (Or.inl ⟨hg,hy⟩) hS h
theorem pA {α:Type} (l:List α) (i:Nat) (x:α):l.toArray.setIfInBounds i x=(l.set i x).toArray:=List.setIfInBounds_toArray ..
theorem pZ {α:Type} (a:α) (l:List α) (x:α):(a::l).set 0 x=x::l:=List.set_cons_zero ..
theorem pS {α:Type} (a:α) (l:List α) (i:Nat) (x:α):(a::l).set (i+1) x=a::l.set i x:=iW ..
theorem jH {l:List Oper} {i:Nat} {o:Oper} (ho:l[i]?=some o):l.toArray[i]?=some o:=by simpa using ho
end
end
section
open Go
section
variable {P:Program} {md:Region.Mode} {l:List Oper} {n:Nat}
def Sn (md:Region.Mode) (l:List Oper) (n:Nat):Bool:=
 decide (n<l.length)&&Region.sinkB md l.toArray n&&Region.chainB md l.toArray n&&
 ((List.range n).all fun j=>match l[j]? with
   |some o=>(o.after.all fun e=>decide (e.on<j)||(decide (e.on<n)&& !Region.binds md e))&&(match o.guard with|some (g,_)=>decide (g<n)|none=>true)
   |none=>false)&&
 Region.seqB md l.toArray (l.length-n) n (List.replicate n true++List.replicate (l.length-n) false).toArray
theorem Db {listed L:Array Bool} (hB:Sn md l n=true) (h:r9 l n listed L) {i:Nat} (hi:i<n):
 i∈Region.ready md l.toArray L↔i∈Region.ready md (l.take n).toArray listed:=by
 simp only[Sn,bV,decide_eq_true_eq] at hB;obtain⟨⟨⟨⟨hn,_⟩,_⟩,hA⟩,_⟩:=hB;have hAi:=eP.1 hA i (fF.2 hi);rw[mem_ready,mem_ready,h.getD hi true];have e1:(l.take n).toArray[i]?=l.toArray[i]?:=by simp[hi]
 rw[e1];refine and_congr_right fun _=>exists_congr fun o=>and_congr_right fun ho=> ?_
 have ho':l[i]?=some o:=by simpa using ho
 rw[ho'] at hAi;simp only[bV] at hAi;have hE:=fD.1 hAi.1;exact forall_congr' fun e=>forall_congr' fun he=>forall_congr' fun _=>by
  rw[h.getD (by
   have:=hE e he;simp at this;omega)]
theorem IE {o:Oper} {tmps:Array Value} (hB:Sn md l n=true) {i:Nat} (hi:i<n) (ho:l[i]?=some o):
 Region.wanted o (yielded (l.take n).toArray tmps)=Region.wanted o (yielded l.toArray tmps):=by
 simp only[Sn,bV,decide_eq_true_eq] at hB;obtain⟨⟨⟨⟨hn,_⟩,_⟩,hA⟩,_⟩:=hB;have hAi:=eP.1 hA i (fF.2 hi);rw[ho] at hAi;simp only[bV] at hAi;unfold Region.wanted;cases hg:o.guard with
 |none=>rfl
 |some p=>
  obtain⟨g,b⟩:=p;have hgn:g<n:=by
   have:=hAi.2;rw[hg] at this;simpa using this
  have e1:yielded (l.take n).toArray tmps g=yielded l.toArray tmps g:=by unfold yielded;simp[hgn]
  simp only[e1]
theorem cutf_all {listed L:Array Bool} (hB:Sn md l n=true) (h:r9 l n listed L) (he:Region.ready md (l.take n).toArray listed=[]): ∀i,i<n→listed.getD i false=true:=by
 simp only[Sn,bV,decide_eq_true_eq] at hB;obtain⟨⟨⟨⟨hn,_⟩,_⟩,hA⟩,_⟩:=hB;intro i;induction i using Nat.strongRecOn with
 |_ i ih=>
  intro hi;cases hl:listed.getD i false with
  |true=>rfl
  |false=>
   have hAi:=eP.1 hA i (fF.2 hi);have hil:i<l.length:=om;rw[aA hil] at hAi;simp only[bV] at hAi;have hE:=fD.1 hAi.1;have:i∈Region.ready md (l.take n).toArray listed:=mem_ready.2 ⟨getD_in (by rw[h.s1];exact hi) hl,l[i],by simp[hi,hil],fun e he hb=>by
    have:=hE e he;simp[hb] at this;exact ih e.on this om⟩
   rw[he] at this;cases this
theorem UO {Q:Exit→Act→World→Prop} {listed L:Array Bool} {a:Act} {w:World} (hB:Sn md l n=true) (h:r9 l n listed L) (he:Region.ready md (l.take n).toArray listed=[])
 (hQ:wpList P l.toArray Q (l.drop n) a w):wpAny P md l.toArray Q (l.drop n).length L a w:=by
 have ha:=cutf_all hB h he;simp only[Sn,bV,decide_eq_true_eq] at hB;obtain⟨⟨⟨⟨hn,_⟩,_⟩,_⟩,hseq⟩:=hB;have e:=NQ h hn ha;subst e;exact wpAny_of_seq (l.drop n) n _ a w (fun j=>by simp[cK]) (by simpa using hseq) hQ
theorem cutf_any {Q:Exit→Act→World→Prop} (hB:Sn md l n=true):
 ∀(f:Nat) (listed L:Array Bool) (a:Act) (w:World),r9 l n listed L→HeadInv md l.toArray n L→
  wpAny P md (l.take n).toArray (nX P l n Q) f listed a w→wpAny P md l.toArray Q ((l.drop n).length+f) L a w:=by
 have hB':=hB;simp only[Sn,bV,decide_eq_true_eq] at hB';obtain⟨⟨⟨⟨hn,hs⟩,hc⟩,hA⟩,_⟩:=hB';intro f;induction f with
 |zero=>
  intro listed L a w hr inv h;exact UO hB hr h.1 h.2
 |succ f ih=>
  intro listed L a w hr inv h;by_cases he:Region.ready md (l.take n).toArray listed=[]
  ·exact vW _ (f+1) _ _ _ (UO hB hr he (h.1 he))
  ·obtain⟨i0,hi0⟩:=List.exists_mem_of_ne_nil _ he
   have hi0n:i0<n:=by
    obtain⟨_,o,ho,_⟩:=mem_ready.1 hi0;have:=(iI.1 ho).1;simp at this;omega
   have hun:L.getD i0 true=false:=by rw[hr.getD hi0n];exact(mem_ready.1 hi0).1
   have hin: ∀i∈Region.ready md l.toArray L,i<n:=fun i hi=>by
    rcases dV i n with q|q
    ·exact q
    ·exact absurd hi (tail_waits hs hc (by simpa using hn) inv _ i0 rfl hi0n hun i q)
   refine⟨fun h0=> ?_,fun i hi=> ?_⟩
   ·have:=(Db hB hr hi0n).2 hi0
    rw[h0] at this;cases this
   ·have hin':=hin i hi
    have h1:=h.2 i ((Db hB hr hin').1 hi);have hil:i<l.length:=om;have e1:(l.take n).toArray[i]?=some l[i]:=by simp[hin',hil]
    have e2:l.toArray[i]?=some l[i]:=by simp[hil]
    have hst: ∀a' w',wpAny P md (l.take n).toArray (nX P l n Q) f (listed.setIfInBounds i true) a' w'→wpAny P md l.toArray Q ((l.drop n).length+f) (L.setIfInBounds i true) a' w':=
     fun a' w' h'=>ih _ _ a' w' (hr.set hin') (inv.set hi hin') h'
    unfold wpOp at h1 ⊢;simp only[e1] at h1;simp only[e2];rw[IE hB hin' (aA hil)] at h1;split
    ·rename_i hw
     simp only[hw,if_true] at h1;rcases h1 with h1|h1
     ·exact .inl (Oper.wp_mono hst (TV h1))
     ·exact .inr ⟨h1.1,yA h1.2⟩
    ·rename_i hw
     simp only[hw] at h1;exact hst _ _ h1
theorem BL {S:World→Prop} {id:Nat} {Q:Exit→Act→World→Prop} {a:Act} {w:World} (n:Nat) (L:Array Bool) (hL:L=(List.replicate n false).toArray) (hm:P.follows .mixedOrders=true) (hB:Sn .any l n=true) (hS:S w.drew)
 (h:S w.drew→wpAnyH P .any (l.take n).toArray (nX P l n Q) S n L a w.drew):(Code.region id l.toArray true).wp P Q a w:=by
 have hB':=hB;simp only[Sn,bV,decide_eq_true_eq] at hB';obtain⟨⟨⟨⟨hn,hs⟩,hc⟩,hA⟩,_⟩:=hB';refine wp_region_any hm ?_;have hsz:(l.take n).toArray.size=n:=by simp;omega
 have h0:=h hS;rw[hL] at h0;have h1:=wpAny_of_held _ _ _ _ h0;have inv0:HeadInv .any l.toArray n (Array.replicate l.toArray.size false):=
  ⟨sI,fun j oj _ hl=>(by rw[getD_replicate_false] at hl;cases hl),fun t _ ht=>getD_in (by simpa using ht) (getD_replicate_false _ _)⟩
 have rel0:r9 l n (List.replicate n false).toArray (Array.replicate l.toArray.size false):=
  ⟨sI,sI,fun i hi=>by
    have h1:i<l.length:=om;simp[h1,hi,Array.getElem?_replicate],fun t _ ht=>getD_in (by simpa using ht) (getD_replicate_false _ _)⟩
 have h2:=cutf_any (Q:=Q) hB _ _ _ a w.drew rel0 inv0 h1;have e:(l.drop n).length+n=l.toArray.size:=by simp;omega
 rw[e] at h2;exact h2
end
end
end Go.Proofs.YtehhldljdakgeaaGreatDoor
