/- Lemmas. -/
import Derived.Test.YtehhldljdakgeaaGreatDoorQb01
import Derived.Test.YtehhldljdakgeaaGreatDoorQb03
set_option linter.unusedSimpArgs false
set_option linter.unusedVariables false
set_option maxHeartbeats 16000000
set_option maxRecDepth 100000
namespace Go.Proofs.YtehhldljdakgeaaGreatDoor
open Go.RowKit Go.Maps Go.Proofs.Tryz
attribute [local go_sem ↓] aJ aK
section
open Go.RowKit Go.ChangeShapes
def nmES:String:=match Rows.laid_slabyard_api_ErrBound (H:=Unit) with| .iface n _=>n|_=> ""
def sentD (text:List UInt8):DataW Unit:=.iface nmES (.ptr (.agg [.lit (.string text)]))
def sentT:DataW Unit→List UInt8| .iface _ (.ptr (.agg [.lit (.string t)]))=>t|_=>[]
theorem TP {P:Program} {W:World} {ti tp te ts:TypeId} {ms:Array (String×TypeId)} {f:Field}
 (hi:P.underlying ti=some (.interface ms)) (hrow: ∀u,P.typeName? 3 u=some nmES→u=tp)
 (hp:P.underlying tp=some (.pointer te)) (he:P.underlying te=some (.struct #[f])) (hft:f.type=ts) (hfo:f.offset=0) (hs:P.underlying ts=some .string) (hc:P.cellsOf te=1) (hcs:P.cellsOf ts=1):
 ∀(l:List (String×List UInt8)) (ps:List MemPlace),(∀x∈l,∃g,P.globalNamed x.1=some g∧(P.globals[g]?).map (·.type)=some ti)→
  DataW.LaidVars P W (l.map fun x=>(x.1,sentD x.2)) ps→ps.Nodup→
  (∀b off,MemPlace.cell b off∈ps→(∃c t,W.heap[b]?=some (.cells c t (0,0)))∧∀u v,W.cell? ⟨b,off,none⟩=some (.iface u v)→Value.okWide P W .any 0 u v)→
  ∃al:List Addr,al.length=l.length∧(∀(j:Nat) (x:String×List UInt8) (a:Addr),l[j]?=some x→al[j]?=some a→W.var? P x.1=some #[.iface tp (.pointer (some a))]∧∃c t,W.heap[a.block]?=some (.cells c t (0,0)))∧
   al.Pairwise (· ≠ ·)∧∀a∈al,MemPlace.cell a.block a.off∈ps:=by
 intro l;induction l with
 |nil=>
  intro ps _ _ _ _;exact⟨[],rfl,fun j x a h=>by simp at h,List.Pairwise.nil,fun a h=>by simp at h⟩
 |cons x r ih=>
  intro ps hg hv hnd hrows;obtain⟨g0,t0,cs0,f0,p0,q0,hg0,ht0,hv0,hd0,hq,e0⟩:=hv;obtain⟨g,hgx,htx⟩:=hg x sI;obtain rfl:=aO (hgx.symm.trans hg0);obtain rfl:=aO (htx.symm.trans ht0);subst e0;obtain⟨l0⟩:=cs0;have ok0: ∀u v,l0=[.iface u v]→Value.okWide P W .any 0 u v:=fun u v e=>by
   subst e;exact(hrows g 0 (by simp[MemPlace.row])).2 u v (by simpa using World.var?_cell hg0 hv0 0)
  obtain⟨a0,s0,rfl,hc0,hs0,hz0,rfl⟩:=errorString_of_trod hi hrow hp he hft hfo hs hc hcs hd0 ok0;obtain⟨al,hl,hall,hpw,hmem⟩:=ih q0 (fun y hy=>hg y (by simp[hy])) hq (List.Nodup.sublist (List.sublist_append_right _ _) hnd) (fun b off hm=>hrows b off (aj _ hm));refine⟨a0::al,by simp[hl],?_,?_,?_⟩
  ·intro j y a hy ha
   cases j with
   |zero=>
    simp at hy ha;subst hy;subst ha;exact⟨hv0,(hrows a0.block a0.off (by simp[MemPlace.row])).1⟩
   |succ j=>exact hall j y a (by simpa using hy) (by simpa using ha)
  ·refine bN.2 ⟨fun b hb e=> ?_,hpw⟩
   subst e;have h1:=hmem a0 hb;have h2:=(bF.1 hnd).2.2 (MemPlace.cell a0.block a0.off) (by simp[MemPlace.row]) _ h1;exact h2 rfl
  ·intro a ha
   rcases aB.1 ha with rfl|ha
   ·simp[MemPlace.row]
   ·exact aj _ (hmem a ha)
theorem one_row: ∀u,prog.typeName? 3 u=some nmES→u=336:=fun u h=>
 typeName_ptr_named (nm:= "errors.errorString") kR kR (by decide) u (h.trans kR)
theorem cells_es:prog.cellsOf 356=1:=kR
theorem WU:prog.cellsOf 9=1:=kR
noncomputable def WV (x:String×List UInt8):Bool:=match prog.globalNamed x.1 with|some g=>(prog.globals[g]?).map (·.type)==some 30|none=>false
theorem TQ {x:String×List UInt8} (h:WV x=true): ∃g,prog.globalNamed x.1=some g∧(prog.globals[g]?).map (·.type)=some 30:=by
 unfold WV at h;cases e:prog.globalNamed x.1 with
 |none=>rw[e] at h;cases h
 |some g=>rw[e] at h;exact⟨g,rfl,by simpa using h⟩
theorem sents_of (l:List (String×List UInt8)) (hl:l.all WV=true) {W:World} (h:laidMet prog (l.map fun x=>(x.1,sentD x.2)) W):
 ∃al:List Addr,al.length=l.length∧(∀(j:Nat) (x:String×List UInt8) (a:Addr),l[j]?=some x→al[j]?=some a→W.var? prog x.1=some #[.iface 336 (.pointer (some a))]∧∃c t,W.heap[a.block]?=some (.cells c t (0,0)))∧
  al.Pairwise (· ≠ ·):=by
 obtain⟨ps,hv,hnd,hrows⟩:=h;obtain⟨al,h1,h2,h3,_⟩:=TP jw one_row Tryz.underlying336 Tryz.underlying356 rfl rfl iM cells_es WU l ps (fun x hx=>TQ (eF.1 hl x hx)) hv hnd hrows;exact⟨al,h1,h2,h3⟩
theorem lt_of_cell {W:World} {a:Addr} {v:Value} (h:W.cell? a=some v):a.block<W.heap.size:=by
 rcases dU a.block W.heap.size with h'|h'
 ·exact h'
 ·simp[World.cell?,eO h'] at h
theorem WW {W:World} {b:Nat} {o:Obj} (h:W.heap[b]?=some o):b<W.heap.size:=(iR.1 h).1
theorem ze {H:Type} {enc:TypeId×Value→H} {P:Program} (hl:laidOutB P=true) {W W':World} (hb:Below W.heap.size W W'):
 ∀{ts:List TypeId} {vs:List Value} {ds:List (DataW H)} {ps:List MemPlace},(∀t∈ts,P.readableRec t=true∧t<P.types.size)→
  DataW.TrodAll enc P W 0 (fun _=>true) true ts vs ds ps→(∀x∈ps,x.block<W.heap.size)→DataW.TrodAll enc P W' 0 (fun b=>decide (b<W.heap.size)) true ts vs ds ps
 |[],[],[],_,_,h,_=>h
 |t::ts,_::vs,_::ds,_,hts,⟨p,q,h,hs,e⟩,hlt=>by
  subst e;exact⟨p,q,Below.trod hl (hts t sI).1 (hts t sI).2 h hb (fun x hx=>hlt x (av _ hx)),
   ze hl hb (fun u hu=>hts u (by simp[hu])) hs (fun x hx=>hlt x (aj _ hx)),rfl⟩
theorem uM {H:Type} {enc:TypeId×Value→H} {P:Program} {W:World} {sp:Nat→Bool} {gs:List (DataW H)} {q:List MemPlace} (h:DataW.TrodVars enc P W sp [] gs q):gs=[]∧q=[]:=by
 cases gs with
 |nil=>exact⟨rfl,h⟩
 |cons g r=>exact absurd h (by intro h;cases h)
theorem Gf {H:Type} {enc:TypeId×Value→H} {f:Func} {s:ChangeSpec} {W W':World} {args:Array Value} {ds:List (DataW H)} {before:List MemPlace} {handsOn:Bool}
 (hv:s.vars=[]) (hf:s.fn H (ds++[])={results:=[.lit (.bool true)],args:=ds}) (hr:f.resultTypes.toList=[4])
 (hts: ∀t∈f.params.toList,prog.readableRec t=true∧t<prog.types.size) {apart:Bool}
 (hW:DataW.Whole enc prog f.params.toList s.vars apart W args.toList ds [] before) (hb:Below W.heap.size W W') (fresh:Bool):
 s.post enc prog f apart fresh handsOn false W args (.bool true) W':=by
 have hW':=hW;obtain⟨p,q,hA,hV,rfl,_,_⟩:=hW;rw[hv] at hV;obtain⟨_,rfl⟩:=uM hV;have hrs:f.resultTypes.size=1:=by rw[←Array.length_toList,hr];rfl
 refine⟨ds,[],p++[],[],p,[],hW',?_,?_,?_,hb.frame _,fun h=>by cases h⟩
 ·rw[hf,hr,hrs]
  exact trodAll_mk1 (shut_bool jC true)
 ·rw[hf]
  exact ze kR hb hts hA (fun x hx=>by simpa using hW'.lt x (by simpa using hx))
 ·rw[hf,hv];rfl
end
section
open Go.RowKit Go.ChangeShapes
def lS:List (String×List UInt8):=(Rows.poolActsRow.laid.drop 1).map fun x=>(x.1,sentT x.2)
theorem WX:(Rows.poolActsRow.laid.filter fun x=>x.2.handleName?.isNone)=lS.map fun x=>(x.1,sentD x.2):=kR
theorem WY:(Rows.poolActsRow.laid.filter fun x=>x.2.handleName?.isSome)=Rows.poolActsRow.laid.take 1:=kR
def hd1:String×DataW Unit:=Rows.poolActsRow.laid.headD ("",.nil)
theorem take1:Rows.poolActsRow.laid.take 1=[hd1]:=rfl
def hName:List UInt8:=[101,114,114,111,114]
theorem typ_name (x:String×DataW Unit) (hx:x∈Rows.poolActsRow.laid.take 1):x.2.funcsIn?=none∧x.2.handleName?=some hName∧prog.globalNamed x.1=some 10:=by
 rw[take1] at hx;obtain rfl:=bL.1 hx;exact⟨kR,kR,kR⟩
theorem one_type:((List.range prog.types.size).filter fun t=>prog.rowNamed t hName)=[30]:=kR
theorem wY {W:World} (h:laidMetH prog Rows.poolActsRow.laid W): ∃ev,qC W.heap.size ev W:=by
 have h':laidMet prog (lS.map fun x=>(x.1,sentD x.2)) W∧handlesMet prog (Rows.poolActsRow.laid.take 1) W:=by
  unfold laidMetH at h;rw[WY,WX] at h;exact h
 obtain⟨hS,hH⟩:=h';obtain⟨al,h1,h2,h3⟩:=sents_of lS kR hS;have htyp:W.cell? ⟨10,0,none⟩=some (.iface 254 (.agg #[.pointer (some ⟨11,30,none⟩)])):=by
  have hx:hd1∈Rows.poolActsRow.laid.take 1:=by rw[take1];exact bL.2 rfl
  obtain⟨n1,n2,n3⟩:=typ_name _ hx;have:=hH _ hx;rw[n1] at this;obtain⟨name,u,ty,e1,e2,e3,e4,e5⟩:=this;rw[n2] at e1;obtain rfl:=aO e1;have hm:ty∈(List.range prog.types.size).filter fun t=>prog.rowNamed t hName:=bG.2 ⟨fM.2 e3,e4⟩
  rw[one_type] at hm;obtain rfl:=bL.1 hm;have hh:typeHandle prog 30= .pointer (some ⟨11,30,none⟩):=kR;rw[hh] at e5;have hu:u=254:=by
   have e6:=e2.symm;have: ∀{y:Option TypeId},y=some 254→some u=y→u=254:=fun a b=>aO (b.trans a)
   exact this kR e6
  subst hu;simpa using World.var?_cell n3 e5 0
 match al,h1,h2,h3 with
 |[a1,a2,a3,a4,a5,a6,a7,a8,a9,a10],_,h2,h3=>
  have g: ∀(i:Nat),1≤i→i≤10→∃x a,lS[i-1]?=some x∧[a1,a2,a3,a4,a5,a6,a7,a8,a9,a10][i-1]?=some a∧prog.globalNamed x.1=some (errG i):=by
   intro i i1 i2;match i,i1,i2 with
   |1,_,_=>exact⟨_,_,rfl,rfl,kR⟩
   |2,_,_=>exact⟨_,_,rfl,rfl,kR⟩
   |3,_,_=>exact⟨_,_,rfl,rfl,kR⟩
   |4,_,_=>exact⟨_,_,rfl,rfl,kR⟩
   |5,_,_=>exact⟨_,_,rfl,rfl,kR⟩
   |6,_,_=>exact⟨_,_,rfl,rfl,kR⟩
   |7,_,_=>exact⟨_,_,rfl,rfl,kR⟩
   |8,_,_=>exact⟨_,_,rfl,rfl,kR⟩
   |9,_,_=>exact⟨_,_,rfl,rfl,kR⟩
   |10,_,_=>exact⟨_,_,rfl,rfl,kR⟩
  generalize hl:[a1,a2,a3,a4,a5,a6,a7,a8,a9,a10]=L at*
  let ev:Nat→Addr:=fun i=>L.getD (i-1) default
  have hev: ∀i,1≤i→i≤10→L[i-1]?=some (ev i):=by
   intro i i1 i2;obtain⟨x,a,_,hb,_⟩:=g i i1 i2;show L[i-1]?=some (L.getD (i-1) default);rw[dQ,hb];rfl
  have hcell: ∀i,1≤i→i≤10→W.cell? ⟨errG i,0,none⟩=some (kM ev i):=by
   intro i i1 i2;obtain⟨x,a,ha,hb,hg⟩:=g i i1 i2;have e:a=ev i:=aO (hb.symm.trans (hev i i1 i2));subst e;have:=World.var?_cell hg (h2 _ x _ ha hb).1 0;rw[this];obtain⟨j,rfl⟩: ∃j,i=j+1:=⟨i-1,om⟩;rfl
  have hrow: ∀i,1≤i→i≤10→∃c t,W.heap[(ev i).block]?=some (.cells c t (0,0)):=by
   intro i i1 i2;obtain⟨x,a,ha,hb,hg⟩:=g i i1 i2;have e:a=ev i:=aO (hb.symm.trans (hev i i1 i2));subst e;exact(h2 _ x _ ha hb).2
  refine⟨ev,aI _,fun i i1 i2=>lt_of_cell (hcell i i1 i2),hcell,?_,hrow,fun i i1 i2=> ?_,lt_of_cell htyp,htyp⟩
  ·intro i j i1 i2 j1 j2 he
   have hi:=hev i i1 i2;have hj:=hev j j1 j2;rcases gW i j with hlt|rfl|hlt
   ·exfalso
    have:=dO.1 h3 (i-1) (j-1) (au.1 hi).1 (au.1 hj).1 om;rw[(au.1 hi).2,(au.1 hj).2] at this;exact this he
   ·rfl
   ·exfalso
    have:=dO.1 h3 (j-1) (i-1) (au.1 hj).1 (au.1 hi).1 om;rw[(au.1 hi).2,(au.1 hj).2] at this;exact this he.symm
  ·obtain⟨c,t,hr⟩:=hrow i i1 i2
   exact WW hr
end
