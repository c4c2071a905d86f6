/- Lemmas and contracts for the claim's last text: MapV, KeyO, IntS, PB, PClose. -/
import Derived.Test.YtdcbhlcbiokbeaaGreatDoorPf01
import Derived.Test.YtdcbhlcbiokbeaaGreatDoorPf21
set_option linter.unusedSimpArgs false
set_option linter.unusedVariables false
set_option maxHeartbeats 16000000
set_option maxRecDepth 100000
namespace Go.Proofs.YtdcbhlcbiokbeaaGreatDoor
section
open Go.RowKit Go.Maps
noncomputable instance litDec:DecidableEq Lit:=fun a b=>Classical.propDecidable (a=b)
def rTok (v:Value):Option (DataW Value×List MemPlace):=some (.held v,[])
noncomputable def jf (L:List (Lit×Value)) (k:Lit):Option Value:=(L.find? fun p=>decide (p.1=k)).map (·.2)
noncomputable def uY (L:List (Lit×Value)) (k:Lit):List (Lit×Value):=L.filter fun p=> !decide (p.1=k)
structure jW (P:Program) (k:TypeId) (w:World) (b:Nat) (L:List (Lit×Value)):Prop where
 own: ∃D,w.ownsMap P k rTok b L.length D∧(∀kl z,WideAt.IsKeyLit kl→D.atKey kl z=((jf L kl).map DataW.held).getD z)∧(∀kl,WideAt.IsKeyLit kl→has D kl=(jf L kl).isSome)∧size D=L.length
 nd:(L.map (·.1)).Nodup
theorem iZ (p:Lit×Value) (L:List (Lit×Value)) (k:Lit):jf (p::L) k=if p.1=k then some p.2 else jf L k:=by
 unfold jf
 rw[List.find?_cons]
 by_cases h:p.1=k<;>simp[h]
theorem pU (L:List (Lit×Value)) (k k':Lit):jf (uY L k) k'=if k=k' then none else jf L k':=by
 induction L with
 |nil=>simp[uY,jf]
 |cons p L ih=>
  unfold uY at ih ⊢
  rw[gK]
  by_cases h:p.1=k
  ·simp only[h,decide_true,Bool.not_true,eX,if_false]
   rw[ih,iZ]
   by_cases h2:k=k'
   ·simp[h2]
   ·simp[h,h2]
  ·simp only[h,decide_false,Bool.not_false,if_true]
   rw[iZ,ih,iZ]
   by_cases h2:k=k'
   ·subst h2;simp[h]
   ·simp[h2]
theorem AY {L:List (Lit×Value)} {k:Lit} (h:jf L k=none): ∀p∈L,p.1≠k:=by
 intro p hp e
 unfold jf at h
 rw[Option.map_eq_none_iff,eY] at h
 exact h p hp (by simpa using e)
theorem wS {L:List (Lit×Value)} {k:Lit} {v:Value} (h:jf L k=some v):(k,v)∈L:=by
 unfold jf at h
 rw[cO] at h
 obtain⟨p,h1,rfl⟩:=h
 have:=List.find?_some h1
 simp at this
 subst this
 exact eB h1
theorem sP {L:List (Lit×Value)} {k:Lit} (h:jf L k=none):uY L k=L:=by
 unfold uY
 rw[dQ]
 intro p hp
 simp[AY h p hp]
theorem sQ {L:List (Lit×Value)} (hn:(L.map (·.1)).Nodup) (k:Lit):(uY L k).length+(if (jf L k).isSome then 1 else 0)=L.length:=by
 induction L with
 |nil=>simp[uY,jf]
 |cons p L ih=>
  rw[bF,aR] at hn
  have ih:=ih hn.2
  by_cases h:p.1=k
  ·have hl:jf L k=none:=by
    cases hq:jf L k with
    |none=>rfl
    |some v=>exact absurd (bR.2 ⟨_,wS hq,h.symm⟩) hn.1
   have hd:=sP hl
   rw[iZ,if_pos h]
   unfold uY at hd ⊢
   rw[gK]
   simp only[h,decide_true,Bool.not_true,eX,if_false]
   rw[hd];simp
  ·rw[iZ,if_neg h]
   unfold uY at ih ⊢
   rw[gK]
   simp only[h,decide_false,Bool.not_false,if_true,cK]
   omega
section
variable {P:Program} {k t e:TypeId} {w w':World} {b:Nat} {L L':List (Lit×Value)} {S:List Nat}
theorem jW.made (w:World) (P:Program) (k:TypeId):jW P k (w.alloc (.map #[] 0)) w.heap.size []:=
 ⟨⟨.map [],World.ownsMap_made w P k rTok,fun kl z hk=>by rw[atKey_of_not_has rf];rfl,fun kl _=>rfl,rfl⟩,fC⟩
theorem jW.keep (h:jW P k w b L) (hk:Keep S w w') (hb:b∉S):jW P k w' b L:=by
 obtain⟨D,h1,h2⟩:=h.own
 refine⟨⟨D,?_,h2⟩,h.nd⟩
 have hl:=h1.lt
 obtain⟨es,clock,q1,q2,q3,q4⟩:=h1
 exact⟨es,clock,(hk.block b hl hb).trans q1,q2,q3,q4⟩
theorem jW.below (h:jW P k w b L) (hk:Below w.heap.size w w'):jW P k w' b L:=h.keep (Keep.of (S:=[]) hk) sI
theorem jW.as (h:jW P k w b L) (hl: ∀kl,jf L' kl=jf L kl) (hn:(L'.map (·.1)).Nodup) (hs:L'.length=L.length):jW P k w b L':=by
 obtain⟨D,h1,h2,h3,h4⟩:=h.own
 exact⟨⟨D,by rw[hs];exact h1,fun kl z q=>by rw[hl];exact h2 kl z q,fun kl q=>by rw[hl];exact h3 kl q,by rw[hs];exact h4⟩,hn⟩
theorem jW.look (h:jW P k w b L) (K:Keyed P k) (ht:P.underlying t=some (.map k e)) {z:Value} (hz:(zeroValue e).run P w= .ok z w) {key:Value} {kl:Lit} (hkey:keyOf P k key=some kl):
 (Instr.lookup t (.map (some b)) key true).run P w= .ok (.tuple #[(jf L kl).getD z,.bool (jf L kl).isSome]) w:=by
 obtain⟨D,h1,h2,h3,h4⟩:=h.own
 obtain⟨v,ps,hr,hv⟩:=h1.look_ok K ht hz (R:=rTok) (zd:=.held z) (zp:=[]) rfl hkey
 rw[hr,h3 kl (K.key hkey)]
 unfold rTok at hv
 rw[h2 kl _ (K.key hkey)] at hv
 cases hq:jf L kl with
 |none=>rw[hq] at hv;simp at hv;simp[hv]
 |some u=>rw[hq] at hv;simp at hv;simp[hv]
theorem jW.look1 (h:jW P k w b L) (K:Keyed P k) (ht:P.underlying t=some (.map k e)) {z:Value} (hz:(zeroValue e).run P w= .ok z w) {key:Value} {kl:Lit} (hkey:keyOf P k key=some kl):
 (Instr.lookup t (.map (some b)) key false).run P w= .ok ((jf L kl).getD z) w:=by
 obtain⟨D,h1,h2,h3,h4⟩:=h.own
 obtain⟨v,ps,hr,hv⟩:=h1.lookup K ht hz (R:=rTok) (zd:=.held z) (zp:=[]) rfl hkey
 rw[hr]
 unfold rTok at hv
 rw[h2 kl _ (K.key hkey)] at hv
 cases hq:jf L kl with
 |none=>rw[hq] at hv;simp at hv;simp[hv]
 |some u=>rw[hq] at hv;simp at hv;simp[hv]
theorem j4 (h:w.mapTurned w' b) (hb:b∈S∨w.heap.size≤b):Keep S w w':=(Keep.refl S w).grown h.grown hb
theorem jW.put (h:jW P k w b L) (K:Keyed P k) (ht:P.underlying t=some (.map k e)) (hn:L.length<maxLen) {key val:Value} {kl:Lit} (hkey:keyOf P k key=some kl):
 ∃w',(Instr.mapUpdate t (.map (some b)) key val).run P w= .ok () w'∧jW P k w' b ((kl,val)::uY L kl)∧w.mapTurned w' b:=by
 obtain⟨D,h1,h2,h3,h4⟩:=h.own
 obtain⟨w',hr,ho,hg⟩:=h1.store K ht hn (R:=rTok) (val:=val) (d:=.held val) (ps:=[]) hkey rfl
 have kk:=K.key hkey
 have hD:=h1.isMap
 have hT:=h1.tidy K
 have hs:=size_put hT (k:=kl) (DataW.held val)
 have hdl:=sQ h.nd kl
 have hsz:size (D.put kl (.held val))=((kl,val)::uY L kl).length:=by
  rw[hs,h3 kl kk,h4,cK]
  split at hdl<;>simp_all<;>omega
 refine⟨w',hr,⟨⟨D.put kl (.held val),?_,fun kl' z q=> ?_,fun kl' q=> ?_,hsz⟩,?_⟩,hg⟩
 ·obtain⟨es,clock,q1,q2,q3,q4⟩:=ho
  refine⟨es,clock,q1,q2,?_,q4⟩
  rw[←hsz,q4]
  simp[size,length_sorted]
 ·rw[iZ]
  by_cases hne:kl=kl'
  ·subst hne;simp[atKey_put_same hD kk]
  ·rw[if_neg hne,atKey_put_other (fun q=>hne q.symm),pU,if_neg hne,h2 kl' z q]
 ·rw[iZ]
  by_cases hne:kl=kl'
  ·subst hne;simp[has_put_same hD kk]
  ·rw[if_neg hne,has_put_other (fun q=>hne q.symm),pU,if_neg hne,h3 kl' q]
 ·rw[bF,aR]
  refine⟨fun q=> ?_,?_⟩
  ·obtain⟨p,hp,e⟩:=bR.1 q
   unfold uY at hp
   simp at hp
   exact hp.2 e
  ·exact h.nd.sublist ((List.filter_sublist).map _)
theorem jW.drop (h:jW P k w b L) (K:Keyed P k) (ht:P.underlying t=some (.map k e)) {key:Value} {kl:Lit} (hkey:keyOf P k key=some kl) (ty:TypeId):
 ∃w',(Builtin.delete_ #[t,k] ty #[.map (some b),key]).run P w= .ok (.tuple #[]) w'∧jW P k w' b (uY L kl)∧w.mapTurned w' b:=by
 obtain⟨D,h1,h2,h3,h4⟩:=h.own
 obtain⟨w',hr,ho,hg⟩:=h1.drop K ht hkey ty
 have kk:=K.key hkey
 have hT:=h1.tidy K
 have hs:=size_del hT (k:=kl)
 have hdl:=sQ h.nd kl
 have hsz:size (D.del kl)=(uY L kl).length:=by
  rw[h3 kl kk,h4] at hs
  omega
 refine⟨w',hr,⟨⟨D.del kl,?_,fun kl' z q=> ?_,fun kl' q=> ?_,hsz⟩,h.nd.sublist ((List.filter_sublist).map _)⟩,hg⟩
 ·obtain⟨es,clock,q1,q2,q3,q4⟩:=ho
  refine⟨es,clock,q1,q2,?_,q4⟩
  rw[←hsz,q4]
  simp[size,length_sorted]
 ·rw[pU]
  by_cases hne:kl=kl'
  ·subst hne;simp[atKey_del_same]
  ·rw[if_neg hne,atKey_del_other (fun q=>hne q.symm),h2 kl' z q]
 ·rw[pU]
  by_cases hne:kl=kl'
  ·subst hne;simp[has_del_same]
  ·rw[if_neg hne,has_del_other (fun q=>hne q.symm),h3 kl' q]
theorem pV {L:List (Lit×Value)} (hn:(L.map (·.1)).Nodup) {k:Lit} {v:Value}:jf L k=some v↔(k,v)∈L:=by
 refine⟨wS,fun h=> ?_⟩
 induction L with
 |nil=>cases h
 |cons p L ih=>
  rw[bF,aR] at hn
  rw[iZ]
  rcases aB.1 h with q|q
  ·subst q;simp
  ·rw[if_neg (fun r=>hn.1 (bR.2 ⟨_,q,r.symm⟩))]
   exact ih hn.2 q
theorem AZ (hn:(L.map (·.1)).Nodup) (hp:L.Perm L') (k:Lit):jf L' k=jf L k:=by
 have hn':(L'.map (·.1)).Nodup:=(hp.map _).nodup_iff.1 hn
 cases h:jf L k with
 |some v=>exact(pV hn').2 (hp.mem_iff.1 ((pV hn).1 h))
 |none=>
  cases h':jf L' k with
  |none=>rfl
  |some v=>
   have:=(pV hn).2 (hp.mem_iff.2 ((pV hn').1 h'))
   rw[h] at this;cases this
theorem jW.perm (h:jW P k w b L) (hp:L.Perm L'):jW P k w b L':=h.as (AZ h.nd hp) ((hp.map _).nodup_iff.1 h.nd) hp.length_eq.symm
end
end
section
open Go.RowKit Go.Maps
theorem zR:Keyed Tryz.prog 49:=Keyed.of_law (deep_law_laid kR (m:=2) om (of_decide_eq_true kR) kR kR)
def oM (o:Ob):Prop:=lW o.1∧lW o.2
theorem wf64 {a:Int} (h:lW a):(Lit.int .i64 a).wf=true:=by
 unfold lW at h
 simp[Lit.wf,IntKind.min,IntKind.max,IntKind.signed,IntKind.bits];omega
def kO (o:Ob):Lit:=.string (keyBytes [.int .i64 o.1,.int .i64 o.2])
theorem keyLits_int {a:Int} (h:lW a) (n:Nat):Tryz.prog.keyLits (n+1) 3 [.int .i64 a]=some [.int .i64 a]:=by
 unfold Program.keyLits
 rw[bD]
 simp[wf64 h]
theorem keyO {o:Ob} (h:oM o):keyOf Tryz.prog 49 (.agg #[.int .i64 o.1,.int .i64 o.2])=some (kO o):=by
 have u:=Tryz.underlying49
 have k1:Tryz.prog.keyType 49=true:=kR
 have f1:(Value.agg #[.int .i64 o.1,.int .i64 o.2]).formed Tryz.prog 49=true:=by
  have c:Tryz.prog.cellsOf 49=2:=kR
  simp[Value.formed,u,c]
 have l1:Tryz.prog.keyLits (Tryz.prog.types.size+1) 49 [.int .i64 o.1,.int .i64 o.2]=some [.int .i64 o.1,.int .i64 o.2]:=by
  have c:Tryz.prog.cellsOf 49=2:=kR
  have c1:Tryz.prog.cellsOf 3=1:=kR
  have hp:0<Tryz.prog.types.size:=of_decide_eq_true kR
  obtain⟨n,hn⟩: ∃n,Tryz.prog.types.size=n+1:=⟨Tryz.prog.types.size-1,om⟩
  rw[hn]
  unfold Program.keyLits
  rw[u]
  simp[c,c1,keyLits_int h.1,keyLits_int h.2]
 unfold keyOf
 rw[u]
 simp only[k1,f1,Bool.and_self,if_true]
 rw[show(Value.agg #[.int .i64 o.1,.int .i64 o.2]).cells.toList=[.int .i64 o.1,.int .i64 o.2] from rfl,l1]
 rfl
theorem kO_inj {a b:Ob} (ha:oM a) (hb:oM b) (h:kO a=kO b):a=b:=by
 have h1:=keyO ha
 rw[h] at h1
 have:=zR.inj h1 (keyO hb)
 simp at this
 exact Prod.ext this.1 this.2
noncomputable def uZ (T:List Ob):List (Lit×Value):=T.map fun o=>(kO o,.bool true)
def uT (G:List (Int×Ob)):List (Lit×Value):=G.map fun g=>(.int .i64 g.1,.agg #[.int .i64 g.2.1,.int .i64 g.2.2])
theorem zS {T:List Ob} {o:Ob} (hT: ∀x∈T,oM x) (ho:oM o):jf (uZ T) (kO o)=if o∈T then some (.bool true) else none:=by
 induction T with
 |nil=>rfl
 |cons a T ih=>
  have ih:=ih fun x hx=>hT x (au _ hx)
  unfold uZ at ih ⊢
  rw[bF,iZ,ih]
  by_cases q:a=o
  ·subst q;simp
  ·have:kO a≠kO o:=fun r=>q (kO_inj (hT a (aG ..)) ho r)
   have q2: ¬o=a:=fun r=>q r.symm
   rw[if_neg this]
   simp[q2]
theorem del_set {T:List Ob} {o:Ob} (hn:T.Nodup) (hT: ∀x∈T,oM x) (ho:oM o):uY (uZ T) (kO o)=uZ (T.erase o):=by
 rw[List.Nodup.erase_eq_filter hn]
 unfold uY uZ
 rw[List.filter_map]
 congr 1
 apply List.filter_congr
 intro x hx
 by_cases q:x=o
 ·subst q;simp
 ·have:kO x≠kO o:=fun r=>q (kO_inj (hT x hx) ho r)
  simp[this,q]
theorem zT {G:List (Int×Ob)} (t:Int):jf (uT G) (.int .i64 t)=((G.find? fun g=>g.1==t).map (·.2)).map fun o=>.agg #[.int .i64 o.1,.int .i64 o.2]:=by
 induction G with
 |nil=>rfl
 |cons g G ih=>
  have e:uT (g::G)=(.int .i64 g.1,.agg #[.int .i64 g.2.1,.int .i64 g.2.2])::uT G:=rfl
  rw[e,iZ,ih,List.find?_cons]
  by_cases q:g.1=t
  ·subst q;simp
  ·have: ¬(Lit.int .i64 g.1= .int .i64 t):=fun r=>q (by injection r)
   have q2:(g.1==t)=false:=by simpa using q
   rw[if_neg this,q2]
theorem del_map {G:List (Int×Ob)} (t:Int):uY (uT G) (.int .i64 t)=uT (G.filter fun g=>g.1 !=t):=by
 unfold uY uT
 rw[List.filter_map]
 congr 1
 apply List.filter_congr
 intro g hg
 by_cases q:g.1=t
 ·subst q;simp
 ·have: ¬(Lit.int .i64 g.1= .int .i64 t):=fun r=>q (by injection r)
  simp[this,q]
end
section
open Go.RowKit Go.Lib
attribute [local go_sem ↓] aO aP
theorem Ba (w:World) (ty:TypeId) (b o c:Nat) (hc:(w.cell? ⟨b,o,none⟩).isSome=true) (hf:w.frozen? ⟨b,o,none⟩=false):
 (Builtin.clear_ #[22] ty #[.slice (some ⟨b,o,none⟩) 1 c]).run Tryz.prog w= .ok (.tuple #[]) (w.setCells b o [.int .i64 0]):=by
 have hst:=run_storeCells_cells (P:=Tryz.prog) b o [.int .i64 0] 0 w (by intro j hj;simp at hj;subst hj;simpa using hc) (by intro j hj;simp at hj;subst hj;simpa using hf) (by intro v hv;simp at hv;subst hv;rfl)
 simp only[Nat.add_zero] at hst
 have hz:(Value.int .i64 0).cells=#[.int .i64 0]:=rfl
 have hzz:(zeroValue 3).run Tryz.prog w= .ok (.int .i64 0) w:=kR
 simp[Builtin.clear_,run_underlying cZ,hzz,hz]
 have e1:(Builtin.zeroCells #[Value.int .i64 0] 1).toList=[.int .i64 0]:=by simp[Builtin.zeroCells]
 rw[e1,hst]
 rfl
def uU (B:Nat) (g k i:Nat) (us:List Value) (w:World) (e:Ending) (w':World):Prop:=
 e= .returned (.slice (some ⟨g,0,none⟩) (us.length-1) k)∧w'.ownsRow B 3 1 (.slice (some ⟨g,0,none⟩) (us.length-1) k) (us.length-1) (us.eraseIdx i)∧Keep [g] w w'
theorem idel_ok {B:Nat} (g k i:Nat) (us rest:List Value) (w:World) (hR:Row1 w g 3 (us++rest)) (hk:(us++rest).length=k) (hm:k≤maxLen) (hBg:B≤g) (hi:i<us.length) (h1: ∀x∈us,x.oneCell'=true) (hl:us.length≤2000):
 Calls Tryz.prog 160 #[.slice (some ⟨g,0,none⟩) us.length k,.int .i64 i,.int .i64 ((i:Int)+1)] w (uU B g k i us w):=by
 obtain⟨n,hn⟩: ∃n,n=us.length:=⟨_,rfl⟩
 have hrk:n≤k:=by rw[←hk,hn];simp
 have hdl:(us.drop (i+1)).length=n-(i+1):=by rw[dB,hn]
 have LR:=hR.loc
 have hsp: ∀(W:World),W=w.drew→∀j,j<(us.drop (i+1)).length→(W.cell? ⟨g,0+i*1+j,none⟩).isSome=true∧W.frozen? ⟨g,0+i*1+j,none⟩=false:=fun W hW j hj=>by
  subst hW
  rw[hdl] at hj
  obtain⟨x,hx⟩: ∃x,(us++rest)[0+i*1+j]?=some x:=⟨(us++rest)[0+i*1+j]' om,aA _⟩
  exact⟨by show(w.cell? _).isSome=true;rw[LR.c _ x hx];rfl,LR.f _ om⟩
 have hsrc: ∀(W:World),W=w.drew→∀(c:Nat) (j:Nat) (u:Value),(us.drop (i+1))[j]?=some u→W.cell? (Addr.add ⟨g,i+1,none⟩ j)=some u:=fun W hW c j u hj=>by
  subst hW
  rw[addr_add]
  rw[dh] at hj
  exact LR.c (i+1+j) u (by rw[bE (ak.1 hj).1];exact hj)
 obtain⟨W1,hW1⟩: ∃W1,W1=w.drew.setCells g i (us.drop (i+1)):=⟨_,rfl⟩
 have R1:=hR.drew.sets (us.drop (i+1)) i (by rw[hdl,hk];omega)
 rw[←hW1] at R1
 have L1:=R1.loc
 have l1:((us++rest).take i++us.drop (i+1)++(us++rest).drop (i+(us.drop (i+1)).length)).length=k:=by simp only[bM,bL,dB] at hk ⊢;omega
 have hcl:=fun ty c=>Ba W1 ty g (n-1) c (by
  obtain⟨x,hx⟩: ∃x,((us++rest).take i++us.drop (i+1)++(us++rest).drop (i+(us.drop (i+1)).length))[n-1]?=some x:=⟨_,aA (by rw[l1];omega)⟩
  rw[L1.c _ x hx];rfl) (L1.f _ (by rw[l1];omega))
 have FIN:Hid (uU B g k i us w (.returned (.slice (some ⟨g,0,none⟩) (n-1) k)) (W1.setCells g (n-1) [.int .i64 0])):=by
  have R2:=R1.sets [.int .i64 0] (n-1) (by rw[l1];simp;omega)
  have hlen:(((us++rest).take i++us.drop (i+1)++(us++rest).drop (i+(us.drop (i+1)).length)).take (n-1)++[Value.int .i64 0]++((us++rest).take i++us.drop (i+1)++(us++rest).drop (i+(us.drop (i+1)).length)).drop (n-1+[Value.int .i64 0].length)).length=k:=by simp only[bM,bL,dB,bW] at l1 ⊢;omega
  have ow:=R2.own hBg (n:=n-1) (by rw[hlen];omega) (by rw[hlen];exact hm)
  rw[hlen] at ow
  have e2:=AL (rest:=rest) (z:=Value.int .i64 0) hi
  rw[←hn] at e2
  rw[bW] at ow
  rw[e2] at ow
  refine⟨by rw[hn],by rw[←hn];exact ow,?_⟩
  rw[hW1]
  exact jC _ _ (jC _ _ (Keep.refl _ _).drew (.inl sI)) (.inl sI)
 have hz2: ¬((i:Int)=(i:Int)+1):=om
 have htn:((i:Int)+1).toNat=i+1:=om
 have hb1:(0:Int)≤(i:Int)+1:=om
 have hi0:(0:Int)≤(i:Int):=om
 have hb3:(i:Int)≤(i:Int)+1:=om
 have hb4:(i:Int)+1≤(n:Int):=om
 have hb5:(i:Int)+1≤(k:Int):=om
 have hb6:(i:Int)≤(k:Int):=om
 have hw2:((n-1:Nat):Int)≤(n:Int):=om
 have hnk:(n:Int)≤(k:Int):=om
 have hn1:n-(n-1)=1:=om
 have hki: ¬(k=i):=om
 have hkn: ¬(k=n-1):=om
 have hl':n≤2000:=om
 have hin:i+(n-(i+1))=n-1:=om
 rw[←hn]
 unfold maxLen at hm
 have ml:=cZ
 obtain⟨i0,hi0',hz0,hzs,hzb⟩:=info_parts (P:=Tryz.prog) (e:=3) (z:=.int .i64 0) (size:=1) (bytes:=8) kR
 have hone: ∀u∈us.drop (i+1),u.oneCell'=true:=fun u hu=>h1 u (eD hu)
 clear hR LR R1 L1 l1 hk hn hi hl h1
 go_enter Tryz.func160,Tryz.ntmps160
 by_cases hc:k=i+1
 ·obtain rfl:n=i+1:=by omega
  subst hc
  have hd0:us.drop (i+1)=[]:=dF.1 om
  rw[hd0] at hW1
  simp only[World.setCells] at hW1
  go_wp2
  go_region_law (refine step_append_room rfl (.tmp 22) (.tmp 25) 22 rfl 3 i0 1 cZ hi0' hzs g 0 i (i+1) (by simp[Act.eval,Act.put]) ⟨g,0,none⟩ 0 0 [] (by simp[Act.eval,Act.put]) sI sI sI om sI ?_)
  subst hW1
  simp only[World.setCells]
  simp only[Nat.add_sub_cancel] at hcl FIN
  go_wp2
  go_ret
  exact FIN.out
 ·go_wp2
  go_region_law (refine step_append_room rfl (.tmp 22) (.tmp 25) 22 rfl 3 i0 1 cZ hi0' hzs g 0 i k (by simp[Act.eval,Act.put]) ⟨g,i+1,none⟩ (n-(i+1)) (k-(i+1)) (us.drop (i+1)) (by simp[Act.eval,Act.put]) (by rw[hdl];omega) (hsrc _ rfl 0) hone om (hsp _ rfl) ?_)
  rw[←hW1]
  clear hW1
  go_wp2
  go_ret
  exact FIN.out
theorem wT {B:Nat} (v:Value) (xs:List Int) (w:World) (h:w.ownsRow B 3 1 v xs.length (ints xs)) (hl:xs.length≤60000):
 Calls Tryz.prog 158 #[v] w fun e w'=>∃q k,e= .returned (.slice q xs.length k)∧w'.ownsRow w.heap.size 3 1 (.slice q xs.length k) xs.length (ints xs)∧Below w.heap.size w w':=by
 have il:(ints xs).length=xs.length:=by simp[ints]
 have HIL:=ah il
 have hv:=kG (X:=[]) (by rw[il];exact h) (fun x hx=>by cases hx)
 rcases h.2 with⟨rfl,h3⟩|⟨g,cap,cur,rfl,hg,hh,hcap,hmax,_⟩
 ·obtain rfl:xs=[]:=dF.1 h3
  have FIN:Hid (w.ownsRow w.heap.size 3 1 (.slice none 0 0) 0 (ints [])):=bG _ _ _ _
  rw[show([]:List Int).length=0 from rfl]
  have es:(binOp .eql 22 (.slice none 0 0) (.slice none 0 0)).run Tryz.prog w= .ok (.bool true) w:=Lib.run_eql_slice_nil w _ 3 none 0 0 0 0 cZ
  clear h hv il HIL h3 hl
  go_enter Tryz.func158,Tryz.ntmps158
  go_wp2
  go_ret
  exact⟨none,0,rfl,FIN.out,aU _ _⟩
 ·obtain⟨n,hn⟩: ∃n,n=xs.length:=⟨_,rfl⟩
  have EN:=ah hn
  have O0:Hid ((w.alloc (.cells #[] 3)).ownsRow w.heap.size 3 1 (.slice (some ⟨w.heap.size,0,none⟩) 0 0) 0 []):=⟨rfl,.inr ⟨w.heap.size,0,#[],rfl,aI _,(MapKept.heap_alloc w _).1,aI _,bC _,rfl,rfl⟩⟩
  have S1:Hid (BF (w.alloc (.cells #[] 3)) (some ⟨g,0,none⟩) (ints xs)):=(hv.below iq).src
  rw[←hn] at hl ⊢
  have es:(binOp .eql 22 (.slice (some ⟨g,0,none⟩) n cap) (.slice none 0 0)).run Tryz.prog w= .ok (.bool false) w:=Lib.run_eql_slice_nil w _ 3 _ n cap 0 0 cZ
  clear h hv hn il hh hg hcap hmax
  go_enter Tryz.func158,Tryz.ntmps158
  go_wp2_with (first|(at_builtin;refine kP (base:=w.heap.size) (v:=.slice (some ⟨w.heap.size,0,none⟩) 0 0) (us:=[]) (ms:=ints xs) (p:=some ⟨g,0,none⟩) Ah rfl (.tmp 5) (.tmp 6) rf rf n rf (HIL.out.trans EN.out.symm) O0.out S1.out (qX _) (by rw[HIL.out,←EN.out];simp;omega) sI ?_;intro q1 k1 w1 hown1 hg1 ho1)|go_in)
  have e5:(ints xs).length=n:=HIL.out.trans EN.out.symm
  simp only[List.nil_append] at hown1
  rw[e5] at hown1 ⊢
  go_ret
  exact⟨q1,k1,rfl,hown1,(show Below w.heap.size w (w.alloc (.cells #[] 3)) from iq).trans ((aU _ _).grown hg1 sI (fun r hr=>by simp[Value.ownBlock] at hr;omega))⟩
def idxI:List Int→Int→Option Nat
 |[],_=>none
 |a::l,x=>if a=x then some 0 else(idxI l x).map (· +1)
theorem pW: ∀{l:List Int} {x:Int} {i:Nat},idxI l x=some i→l[i]?=some x∧(∀j,j<i→l[j]?≠some x)∧l.erase x=l.eraseIdx i
 |[],x,i,h=>by cases h
 |a::l,x,i,h=>by
  unfold idxI at h
  split at h
  ·rename_i q;cases h;subst q
   exact⟨rfl,fun j hj=>om,sI⟩
  ·rename_i q
   rw[cO] at h
   obtain⟨k,hk,rfl⟩:=h
   obtain⟨h1,h2,h3⟩:=pW hk
   refine⟨by simpa using h1,fun j hj=> ?_,?_⟩
   ·cases j with
    |zero=>simpa using q
    |succ j=>simpa using h2 j om
   ·rw[List.erase_cons_tail (by simpa using q),h3];rfl
theorem sS: ∀{l:List Int} {x:Int},idxI l x=none↔x∉l
 |[],x=>by simp[idxI]
 |a::l,x=>by
  unfold idxI
  split
  ·rename_i q;subst q;simp
  ·rename_i q
   rw[Option.map_eq_none_iff,sS]
   simp only[aB,not_or]
   exact⟨fun h=>⟨fun r=>q r.symm,h⟩,fun h=>h.2⟩
def idxV (l:List Int) (x:Int):Int:=match idxI l x with|some i=>i|none=> -1
theorem Dz {X:List Nat} (v:Value) (xs:List Int) (x:Int) (w:World) (h:jy X w v (ints xs)) (hl:xs.length≤60000):
 Calls Tryz.prog 171 #[v,.int .i64 x] w fun e w'=>e= .returned (.int .i64 (idxV xs x))∧w'=w:=by
 obtain⟨p,cap,rfl,h2,h3,h4⟩:=h.form
 have il:(ints xs).length=xs.length:=by simp[ints]
 rw[il] at h2 ⊢
 have CL:Hid (∀j a,xs[j]?=some a→∃g off,p=some ⟨g,off,none⟩∧g<w.heap.size∧w.cell? ⟨g,off+j,none⟩=some (.int .i64 a)):=fun j a hj=>by
  obtain⟨g,off,e1,_,e2,e3⟩:=h4 j _ (show(ints xs)[j]?=some (.int .i64 a) by simp[ints,hj])
  exact⟨g,off,e1,e2,e3⟩
 obtain⟨n,hn⟩: ∃n,n=xs.length:=⟨_,rfl⟩
 have EN:=ah hn
 rw[←hn] at h2 hl ⊢
 unfold maxLen at h3
 obtain⟨r,hr⟩: ∃r,r=idxV xs x:=⟨_,rfl⟩
 have HR:=ah hr
 rw[←hr]
 clear h h4 il hn hr
 go_enter Tryz.func171,Tryz.ntmps171
 go_wp2
 go_loop [5,8] (fun _ iv=>∃j:Nat,j≤n∧iv= .int .i64 j∧Hid (∀i,i<j→xs[i]?≠some x)) (fun _ iv=>n-(intOf iv).toNat)
 case atStart=>exact⟨0,om,by go_num,fun i hi=>om⟩
 case round=>
  obtain⟨j,hj,rfl,HJ⟩:=hrel
  have j0:(0:Int)≤(j:Int):=om
  by_cases hjn:j<n
  ·obtain⟨a,ha⟩: ∃a,xs[j]?=some a:=⟨xs[j]'(by rw[←EN.out];exact hjn),aA _⟩
   obtain⟨g,off,rfl,e2,e3⟩:=CL.out j a ha
   have HA:=ah ha
   have j1:(j:Int)<(n:Int):=om
   clear ha
   by_cases hax:x=a
   ·subst hax
    have ev:r=j:=by
     rw[HR.out];unfold idxV
     cases hi:idxI xs x with
     |none=>exact absurd (aD HA.out) (sS.1 hi)
     |some i=>
      obtain⟨q1,q2,_⟩:=pW hi
      show((i:Nat):Int)=j
      have:i=j:=by
       rcases fu i j with t|t|t
       ·exact absurd q1 (HJ.out i t)
       ·exact t
       ·exact absurd HA.out (q2 j t)
      rw[this]
    subst ev
    go_wp2
    go_ret
    exact⟨rfl,rfl⟩
   ·go_wp2
    go_round
    case rel=>exact⟨j+1,om,by go_num,fun i hi q=>by
     rcases Nat.lt_succ_iff_lt_or_eq.1 hi with t|t
     ·exact HJ.out i t q
     ·subst t;rw[HA.out] at q;exact hax (aH q).symm⟩
    case measure=>simp[intOf];omega
  ·obtain rfl:j=n:=by omega
   have ev:r= -1:=by
    rw[HR.out];unfold idxV
    cases hi:idxI xs x with
    |none=>rfl
    |some i=>
     obtain⟨q1,_⟩:=pW hi
     exact absurd q1 (HJ.out i (by rw[EN.out];exact(ak.1 q1).1))
   subst ev
   go_wp2
   go_ret
   exact⟨rfl,rfl⟩
theorem nG {X:List Nat} (v:Value) (xs:List Int) (x:Int) (w:World) (h:jy X w v (ints xs)) (hl:xs.length≤60000):
 Calls Tryz.prog 161 #[v,.int .i64 x] w fun e w'=>e= .returned (.bool (decide (x∈xs)))∧w'=w:=by
 have IX:=ah (Dz v xs x w h hl)
 obtain⟨p,cap,rfl,_,_,_⟩:=h.form
 obtain⟨r,hr⟩: ∃r,r=idxV xs x:=⟨_,rfl⟩
 have hd:decide (0≤r)=decide (x∈xs):=by
  rw[hr];unfold idxV
  cases hi:idxI xs x with
  |none=>have:=sS.1 hi;simp[this]
  |some i=>have:=aD (pW hi).1;simp[this]
 rw[←hr] at IX
 rw[←hd]
 clear h hr hd
 go_enter Tryz.func161,Tryz.ntmps161
 go_wp2_with fail
 refine IX.out.mono ?_
 rintro e w1 ⟨rfl,rfl⟩
 go_wp2
 go_ret
 exact⟨rfl,rfl⟩
end
section
open Go.RowKit Go.Maps
attribute [local go_sem ↓] aO aP
def pws (pp bt bg:Nat) (vw:Value):List Nat:=pp::bt::bg::gY vw
def iD (pd bt bg:Nat) (vr vw:Value) (p:Po):List Value:=[.pointer (some ⟨pd,0,none⟩),.int .i64 p.most,vr,.map (some bt),vw,.map (some bg),.int .i64 p.last,.bool p.cl]
structure PoB (X:List Nat) (B:Nat) (w:World) (pp pd bt bg:Nat) (vr vw:Value) (p:Po):Prop where
 c:gX w pp (iD pd bt bg vr vw p)
 r:iV X w vr p.R
 t:jW Tryz.prog 49 w bt (uZ p.T)
 ow:w.ownsRow B 3 1 vw p.W.length (ints p.W)
 g:jW Tryz.prog 3 w bg (uT p.G)
 nd:(pws pp bt bg vw).Nodup
 lim: ∀y∈pws pp bt bg vw,B≤y∧y<w.heap.size
section
variable {X Y S F G:List Nat} {B:Nat} {w w' w1 w2:World} {pp pd bt bg:Nat} {vr vw vr' vw':Value} {p p':Po}
theorem jr:pp∈pws pp bt bg vw:=aG ..
theorem j5:bt∈pws pp bt bg vw:=au _ (aG ..)
theorem lQ:bg∈pws pp bt bg vw:=au _ (au _ (aG ..))
theorem yE {y:Nat} (h:y∈gY vw):y∈pws pp bt bg vw:=au _ (au _ (au _ h))
theorem PoB.keep (h:PoB X B w pp pd bt bg vr vw p) (k:Keep S w w') (hs: ∀s∈S,s∉pws pp bt bg vw∧(s∈X∨w.heap.size≤s)):PoB X B w' pp pd bt bg vr vw p:=
 ⟨h.c.keep k fun q=>(hs _ q).1 jr,h.r.keep k fun s q=>(hs s q).2,h.t.keep k fun q=>(hs _ q).1 j5,gZ h.ow k fun s q r=>(hs s q).1 (yE r),h.g.keep k fun q=>(hs _ q).1 lQ,h.nd,
  fun y hy=>⟨(h.lim y hy).1,aF (h.lim y hy).2 k.size⟩⟩
theorem PoB.below (h:PoB X B w pp pd bt bg vr vw p) (k:Below w.heap.size w w'):PoB X B w' pp pd bt bg vr vw p:=h.keep (Keep.of (S:=[]) k) (fun _ q=>by cases q)
theorem PoB.more (h:PoB X B w pp pd bt bg vr vw p) (hY: ∀y∈Y,y∈X∨w.heap.size≤y):PoB Y B w pp pd bt bg vr vw p:=⟨h.c,h.r.more hY,h.t,h.ow,h.g,h.nd,h.lim⟩
theorem PoB.atD (h:PoB X B w pp pd bt bg vr vw p) (d:De):PoB X B w pp pd bt bg vr vw (p.atD d):=⟨h.c,h.r,h.t,h.ow,h.g,h.nd,h.lim⟩
theorem PoB.ne (h:PoB X B w pp pd bt bg vr vw p):pp≠bt∧pp≠bg∧bt≠bg∧pp∉gY vw∧bt∉gY vw∧bg∉gY vw:=by
 obtain⟨n1,n2⟩:=aR.1 h.nd
 obtain⟨n3,n4⟩:=aR.1 n2
 obtain⟨n5,_⟩:=aR.1 n4
 simp only[aB,not_or] at n1 n3
 exact⟨n1.1,n1.2.1,n3.1,n1.2.2,n3.2,n5⟩
end
section
variable {pd pc pz e:Nat} {mn:Int} {O:List (List Int)} {ev:Nat→Addr} {w0:World}
structure PoT (E:uo pd pc pz e mn O ev w0) (X F:List Nat) (pp bt bg:Nat) (vr vw:Value) (p:Po) (w:World):Prop where
 s:E.S X (pws pp bt bg vw++F) p.d w
 b:PoB X w0.heap.size w pp pd bt bg vr vw p
 f: ∀f∈F,f∉pws pp bt bg vw
def PoX (E:uo pd pc pz e mn O ev w0) (X F:List Nat) (pp:Nat) (p:Po) (w:World):Prop:=(∃bt bg vr vw,PoT E X F pp bt bg vr vw p w)∧kJ e p
def jm (E:uo pd pc pz e mn O ev w0) (X F:List Nat) (pp:Nat) (p':Po) (w w':World):Prop:=
 ∃X',PoX E X' F pp p' w'∧Keep (off X F) w w'∧(∀x∈X',x∈X∨w.heap.size≤x)∧∀x∈X,x∈X'
def PPost (E:uo pd pc pz e mn O ev w0) (X F:List Nat) (pp:Nat) (p':Po) (w:World) (r:Value) (en:Ending) (w':World):Prop:=en= .returned r∧jm E X F pp p' w w'
variable {E:uo pd pc pz e mn O ev w0} {X X' Y S F G:List Nat} {w w' w1 w2:World} {pp bt bg:Nat} {vr vw vr' vw':Value} {p p':Po} {d:De} {r:Value} {en:Ending}
theorem PoT.go (h:PoT E X F pp bt bg vr vw p w) (k:Below w.heap.size w w'):PoT E X F pp bt bg vr vw p w':=⟨E.go h.s k,h.b.below k,h.f⟩
theorem PoX.go (h:PoX E X F pp p w) (k:Below w.heap.size w w'):PoX E X F pp p w':=by
 obtain⟨⟨bt,bg,vr,vw,q⟩,i⟩:=h
 exact⟨⟨bt,bg,vr,vw,q.go k⟩,i⟩
theorem PoX.bel (h:PoX E X F pp p w):Below w0.heap.size w0 w:=by
 obtain⟨⟨bt,bg,vr,vw,q⟩,i⟩:=h
 exact E.bel q.s
theorem PoX.lim (h:PoX E X F pp p w): ∀x∈X,w0.heap.size≤x∧x<w.heap.size:=by
 obtain⟨⟨bt,bg,vr,vw,q⟩,i⟩:=h
 exact E.lim q.s
theorem PoX.nY (h:PoX E X F pp p w): ∀f∈F,f∈X:=by
 obtain⟨⟨bt,bg,vr,vw,q⟩,i⟩:=h
 exact fun f hf=>E.nY q.s f (aj _ hf)
theorem PoT.inX (h:PoT E X F pp bt bg vr vw p w): ∀y∈pws pp bt bg vw,y∈X:=fun y hy=>E.nY h.s y (av _ hy)
theorem jm.same (h:PoX E X F pp p w) (k:Below w.heap.size w w'):jm E X F pp p w w':=⟨X,h.go k,Keep.of k,fun _ q=>.inl q,fun _ q=>q⟩
theorem jm.ahead (hk:Below w.heap.size w w1) (h:jm E X F pp p' w1 w2):jm E X F pp p' w w2:=by
 obtain⟨X',h1,h2,h3,h4⟩:=h
 have z:=hk.size
 exact⟨X',h1,(Keep.of hk).then h2,fun x q=>(h3 x q).imp id (fun r=>om),h4⟩
theorem jm.behind (h:jm E X F pp p' w w1) (hk:Below w1.heap.size w1 w2):jm E X F pp p' w w2:=by
 obtain⟨X',h1,h2,h3,h4⟩:=h
 exact⟨X',h1.go hk,h2.step hk,h3,h4⟩
theorem DC (h: ∀x∈X',x∈X∨w.heap.size≤x) (hk:Keep (off X F) w w1) (hk2:Keep (off X' F) w1 w2):Keep (off X F) w w2:=hk.trans hk2 fun s q=>by
 obtain⟨q1,q2⟩:=iO.1 q
 exact(h s q1).imp (fun r=>iO.2 ⟨r,q2⟩) id
theorem PoT.put (h:PoT E X F pp bt bg vr vw p w) (k:Keep (pws pp bt bg vw) w w') (Y:List Nat) (hY: ∀y∈Y,w.heap.size≤y∧y<w'.heap.size) (hw: ∀y∈gY vw',y∈gY vw∨y∈Y)
 (hb:PoB (Y++X) w0.heap.size w' pp pd bt bg vr' vw' p') (hd:p'.d=p.d) (hi:kJ e p'):jm E X F pp p' w w':=by
 have hsub: ∀y∈pws pp bt bg vw',y∈Y++pws pp bt bg vw:=fun y hy=>by
  rcases aB.1 hy with q|q
  ·subst q;exact aj _ jr
  rcases aB.1 q with q|q
  ·subst q;exact aj _ j5
  rcases aB.1 q with q|q
  ·subst q;exact aj _ lQ
  rcases hw y q with r|r
  ·exact aj _ (yE r)
  ·exact av _ r
 have s1:=E.Bo (Y:=Y) h.s k (fun g q=>av _ q) hY
 refine⟨Y++X,⟨⟨bt,bg,vr',vw',?_,hb,fun f hf q=> ?_⟩,hi⟩,k.mono fun s q=>iO.2 ⟨h.inX s q,fun r=>h.f s r q⟩,fun x q=> ?_,fun x q=>aj _ q⟩
 ·rw[hd]
  refine E.xw s1 fun g q=> ?_
  rcases aC.1 q with r|r
  ·rcases aC.1 (hsub g r) with t|t
   ·exact av _ t
   ·exact aj _ (av _ t)
  ·exact aj _ (aj _ r)
 ·rcases aC.1 (hsub f q) with r|r
  ·have:=(hY f r).1
   have:=(E.lim h.s f (E.nY h.s f (aj _ hf))).2
   omega
  ·exact h.f f hf r
 ·rcases aC.1 q with r|r
  ·exact .inr (hY x r).1
  ·exact .inl r
theorem PoT.putW (h:PoT E X F pp bt bg vr vw p w) (k:Keep (pws pp bt bg vw) w w') (hw: ∀y∈gY vw',y∈gY vw∨(w.heap.size≤y∧y<w'.heap.size)) (hc:gX w' pp (iD pd bt bg vr vw' p'))
 (hT:jW Tryz.prog 49 w' bt (uZ p'.T)) (hW:w'.ownsRow w0.heap.size 3 1 vw' p'.W.length (ints p'.W)) (hG:jW Tryz.prog 3 w' bg (uT p'.G)) (hR:p'.R=p.R) (hd:p'.d=p.d) (hi:kJ e p'):jm E X F pp p' w w':=by
 obtain⟨m1,m2,m3,m4,m5,m6⟩:=h.b.ne
 have far: ∀y,y∈pws pp bt bg vw→y∉gY vw→y∉gY vw':=fun y hy hn q=>by
  rcases hw y q with r|r
  ·exact hn r
  ·have:=(h.b.lim y hy).2;omega
 have hY: ∀y∈(gY vw').filter (fun y=>decide (w.heap.size≤y)),w.heap.size≤y∧y<w'.heap.size:=fun y hy=>by
  obtain⟨q1,q2⟩:=bH.1 hy
  have q2:w.heap.size≤y:=of_decide_eq_true q2
  rcases hw y q1 with r|r
  ·have:=(h.b.lim y (yE r)).2;omega
  ·exact r
 have hw2: ∀y∈gY vw',y∈gY vw∨y∈(gY vw').filter (fun y=>decide (w.heap.size≤y)):=fun y hy=>(hw y hy).imp id fun r=>bH.2 ⟨hy,decide_eq_true r.1⟩
 refine h.put k _ hY hw2 ⟨hc,?_,hT,hW,hG,?_,fun y hy=> ?_⟩ hd hi
 ·rw[hR]
  exact(h.b.r.more fun y hy=>(aC.1 hy).elim (fun r=>.inr (hY y r).1) .inl).keep k fun s q=>.inl (aj _ (h.inX s q))
 ·refine aR.2 ⟨?_,aR.2 ⟨?_,aR.2 ⟨far bg lQ m6,?_⟩⟩⟩
  ·simp only[aB,not_or];exact⟨m1,m2,far pp jr m4⟩
  ·simp only[aB,not_or];exact⟨m3,far bt j5 m5⟩
  ·unfold gY;cases vw'.ownBlock<;>simp
 ·rcases aB.1 hy with q|q
  ·subst q;exact⟨(h.b.lim _ jr).1,aF (h.b.lim _ jr).2 k.size⟩
  rcases aB.1 q with q|q
  ·subst q;exact⟨(h.b.lim _ j5).1,aF (h.b.lim _ j5).2 k.size⟩
  rcases aB.1 q with q|q
  ·subst q;exact⟨(h.b.lim _ lQ).1,aF (h.b.lim _ lQ).2 k.size⟩
  rcases hw y q with r|r
  ·exact⟨(h.b.lim _ (yE r)).1,aF (h.b.lim _ (yE r)).2 k.size⟩
  ·have:=(E.bel h.s).size;exact⟨om,r.2⟩
theorem PoT.putR (h:PoT E X F pp bt bg vr vw p w) (k:Keep [pp,bt,bg] w w') (hc:gX w' pp (iD pd bt bg vr' vw p'))
 (hT:jW Tryz.prog 49 w' bt (uZ p'.T)) (hG:jW Tryz.prog 3 w' bg (uT p'.G)) (hR:iV X w' vr' p'.R) (hW:p'.W=p.W) (hd:p'.d=p.d) (hi:kJ e p'):jm E X F pp p' w w':=by
 obtain⟨m1,m2,m3,m4,m5,m6⟩:=h.b.ne
 have kk:Keep (pws pp bt bg vw) w w':=k.mono fun s q=>by
  simp at q
  rcases q with rfl|rfl|rfl
  ·exact jr
  ·exact j5
  ·exact lQ
 refine h.put kk [] (fun y q=>by cases q) (fun y q=>.inl q) ⟨hc,hR,hT,?_,hG,h.b.nd,fun y hy=>⟨(h.b.lim y hy).1,aF (h.b.lim y hy).2 k.size⟩⟩ hd hi
 rw[hW]
 exact gZ h.b.ow k fun s q r=>by
  simp at q
  rcases q with rfl|rfl|rfl
  ·exact m4 r
  ·exact m5 r
  ·exact m6 r
theorem PoT.Bb (h:PoT E X F pp bt bg vr vw p w) (hp:EPost E.S X (pws pp bt bg vw++F) d w r en w'):en= .returned r∧∃X',PoT E X' F pp bt bg vr vw (p.atD d) w'∧Keep (off X F) w w'∧(∀x∈X',x∈X∨w.heap.size≤x)∧∀x∈X,x∈X':=by
 obtain⟨h1,X',h2,h3,h4,h5⟩:=hp
 refine⟨h1,X',⟨h2,((h.b.atD d).more h4).keep h3 fun s q=>⟨fun r=>(iO.1 q).2 (av _ r),.inl (h5 s (iO.1 q).1)⟩,h.f⟩,h3.mono fun s q=>iO.2 ⟨(iO.1 q).1,fun r=>(iO.1 q).2 (aj _ r)⟩,h4,h5⟩
theorem PoX.other (h:PoX E X F pp p w) (k:Keep G w w') (hs: ∀g∈G,g∈F):PoX E X F pp p w':=by
 obtain⟨⟨bt,bg,vr,vw,q⟩,i⟩:=h
 exact⟨⟨bt,bg,vr,vw,E.other q.s k fun g t=>aj _ (hs g t),q.b.keep k fun s t=>⟨q.f s (hs s t),.inl (E.nY q.s s (aj _ (hs s t)))⟩,q.f⟩,i⟩
theorem PoX.Bo (h:PoX E X F pp p w) (k:Keep G w w') (hs: ∀g∈G,g∈F) (hY: ∀y∈Y,w.heap.size≤y∧y<w'.heap.size):PoX E (Y++X) (Y++F) pp p w':=by
 obtain⟨⟨bt,bg,vr,vw,q⟩,i⟩:=h
 refine⟨⟨bt,bg,vr,vw,E.xw (E.Bo (Y:=Y) q.s k (fun g t=>aj _ (hs g t)) hY) fun g t=> ?_,(q.b.more (Y:=Y++X) fun y t=> ?_).keep k fun s t=>⟨q.f s (hs s t),.inl (aj _ (E.nY q.s s (aj _ (hs s t))))⟩,fun f t r=> ?_⟩,i⟩
 ·rcases aC.1 t with r|r
  ·exact aj _ (av _ r)
  ·rcases aC.1 r with u|u
   ·exact av _ u
   ·exact aj _ (aj _ u)
 ·rcases aC.1 t with r|r
  ·exact .inr (hY y r).1
  ·exact .inl r
 ·rcases aC.1 t with u|u
  ·have:=(hY f u).1;have:=(q.b.lim f r).2;omega
  ·exact q.f f u r
theorem PoX.xw (h:PoX E X F pp p w) (hs: ∀g∈G,g∈F):PoX E X G pp p w:=by
 obtain⟨⟨bt,bg,vr,vw,q⟩,i⟩:=h
 refine⟨⟨bt,bg,vr,vw,E.xw q.s fun g t=> ?_,q.b,fun f t=>q.f f (hs f t)⟩,i⟩
 rcases aC.1 t with r|r
 ·exact av _ r
 ·exact aj _ (hs g r)
def jw (E:uo pd pc pz e mn O ev w0) (pp:Nat):FEnv Po w0 where
 S X F p w:=PoX E X F pp p w
 bel h:=h.bel
 lim h:=h.lim
 nY h:=h.nY
 go h k:=h.go k
 other h k hs:=h.other k hs
 Bo h k hs hy:=h.Bo k hs hy
 xw h hg:=h.xw hg
variable {X0 L:List Nat} {W W':World}
theorem PoX.Bb (h:PoX E X F pp p w) (hi:kJ e (p.atD d)): ∃Z,E.S X Z p.d w∧∀{r en w'},EPost E.S X Z d w r en w'→EPost (jw E pp).S X F (p.atD d) w r en w':=by
 obtain⟨⟨bt,bg,vr,vw,q⟩,i⟩:=h
 refine⟨_,q.s,fun {r en w'} hp=> ?_⟩
 obtain⟨h1,X',h2,h3,h4,h5⟩:=q.Bb hp
 exact⟨h1,X',⟨⟨bt,bg,vr,vw,h2⟩,hi⟩,h3,h4,h5⟩
end
end
section
open Go.RowKit Go.Maps
attribute [local go_sem ↓] aO aP
section
variable {pd pc pz e:Nat} {mn:Int} {O:List (List Int)} {ev:Nat→Addr} {w0:World} {E:uo pd pc pz e mn O ev w0} {X F:List Nat} {w w1 w':World} {pp bt bg:Nat} {vr vw:Value} {p p':Po}
theorem wV {e:Nat} {d:De} {l:List Ob} {i:Nat} {o:Ob} (h:l[i]?=some o):lF e d (l.take (i+1))=(iU e (lF e d (l.take i)) 0 o).1:=by
 unfold lF
 rw[bX,h]
 simp[List.foldl_append]
end
end
end Go.Proofs.YtdcbhlcbiokbeaaGreatDoor
