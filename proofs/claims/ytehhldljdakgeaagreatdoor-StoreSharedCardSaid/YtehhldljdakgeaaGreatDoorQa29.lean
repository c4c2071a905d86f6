/- Lemmas and contracts for the claim's last text: DMo, MapV, KeyO, PPl, PB. -/
import Derived.Test.YtehhldljdakgeaaGreatDoorQa01
import Derived.Test.YtehhldljdakgeaaGreatDoorQa19
set_option linter.unusedSimpArgs false
set_option linter.unusedVariables false
set_option maxHeartbeats 16000000
set_option maxRecDepth 100000
namespace Go.Proofs.YtehhldljdakgeaaGreatDoor
open Go.RowKit Go.Maps
attribute [local go_sem ↓] aJ aK
structure MoI (e:Nat) (l:List Ob) (d:De):Prop where
 nd:l.Nodup
 out: ∀x∈l,x∉held d
 iff: ∀x,x∈oM e d.c.C↔x∈l∨x∈held d
section
variable {mn:Int} {O:List (List Int)} {e:Nat} {d:De} {k v:Int} {u:Bool} {l:List Ob} {o:Ob}
theorem MoI.snoc (h:MoI e l d) (ho:o∉l) {d':De} (h1:o∉held d') (h2: ∀x∈held d',x∈held d) (h3: ∀x,x∈oM e d'.c.C↔x=o∨x∈l∨x∈held d'):MoI e (l++[o]) d':=by
 refine⟨?_,fun x hx=> ?_,fun x=> ?_⟩
 ·rw[bD]
  refine⟨h.nd,sI,fun a ha b hb q=> ?_⟩;simp at hb;subst hb q;exact ho ha
 ·rcases aD.1 hx with q|q
  ·exact fun r=>h.out x q (h2 x r)
  ·simp at q;subst q;exact h1
 ·rw[h3]
  simp;constructor
  ·rintro(q|q|q)
   ·exact .inl (.inr q)
   ·exact .inl (.inl q)
   ·exact .inr q
  ·rintro((q|q)|q)
   ·exact .inr (.inl q)
   ·exact .inl q
   ·exact .inr (.inr q)
theorem MoI.take (hO:qY O d.c.L.length) (hI:oH e d) (h:MoI e l d) (k v:Int) (u:Bool):
 ((takeD mn O e d k v u).2.1=0∧(takeD mn O e d k v u).2.2∉l∧MoI e (l++[(takeD mn O e d k v u).2.2]) (takeD mn O e d k v u).1)∨
 ((takeD mn O e d k v u).2.1≠0∧MoI e l (takeD mn O e d k v u).1):=by
 cases hh:nY d k with
 |none=>rw[tN hh];exact .inr ⟨sI,h⟩
 |some g=>
  cases hl:(lZ g d.P).1.1.getLast? with
  |some o=>
   have hc:=Uh (mn:=mn) (O:=O) (e:=e) (v:=v) (u:=u) hh hl;have e2:(takeD mn O e d k v u).2=(0,o):=by rw[mD hh hl]
   have ec:(takeD mn O e d k v u).1.c=d.c:=by rw[mD hh hl]
   have hoh:o∈held d:=dO.1 (by have h2:=hc o;simp only[if_true] at h2;omega);rw[e2];have hol:o∉l:=fun q=>h.out o q hoh
   have hn:o∉held (takeD mn O e d k v u).1:=fun q=>by
    have h1:=dO.2 q;have h2:=hc o;have h3:=(hI.cnt o).1;simp only[if_true] at h2;omega
   have hs: ∀x∈held (takeD mn O e d k v u).1,x∈held d:=fun x q=>dO.1 (by have:=dO.2 q;have:=hc x;omega)
   refine .inl ⟨rfl,hol,h.snoc hol hn hs fun x=> ?_⟩;rw[ec,h.iff];constructor
   ·rintro(q|q)
    ·exact .inr (.inl q)
    ·by_cases hx:x=o
     ·exact .inl hx
     ·refine .inr (.inr (dO.1 ?_))
      have:=dO.2 q;have:=hc x;rw[if_neg (fun r=>hx r.symm)] at this;omega
   ·rintro(q|q|q)
    ·subst q;exact .inr hoh
    ·exact .inl q
    ·exact .inr (hs x q)
  |none=>
   rw[mV hh hl];have eh:held ⟨(takeC mn O e d.c v u).1,d.H,d.P⟩=held d:=rfl;rcases DY (mn:=mn) (O:=O) hO hI.c v u with⟨t1,t2,t3⟩|⟨t1,t2⟩
   ·have hol:(takeC mn O e d.c v u).2.2∉l:=fun q=>t2 ((h.iff _).2 (.inl q))
    refine .inl ⟨t1,hol,h.snoc hol (fun q=>t2 ((h.iff _).2 (.inr q))) (fun x q=>q) fun x=> ?_⟩;rw[eh,t3,h.iff]
   ·refine .inr ⟨t1,h.nd,h.out,fun x=> ?_⟩
    show x∈oM e (takeC mn O e d.c v u).1.C↔_;rw[t2];exact h.iff x
theorem su:(takeD mn O e d k v u).1.H.length=d.H.length:=by
 cases hh:nY d k with
 |none=>rw[tN hh]
 |some g=>
  cases hl:(lZ g d.P).1.1.getLast? with
  |some o=>rw[mD hh hl];simp
  |none=>rw[mV hh hl]
theorem MoI.za (h:MoI e l d) (ho:o∈l):za e d o=true:=Og.2 ⟨(h.iff o).2 (.inl ho),h.out o ho⟩
theorem Ed {l:List Ob} (hn:l.Nodup) {i:Nat} {o:Ob} (ho:l[i]?=some o) (x:Ob):x∈l.take i++l.drop (i+1)↔x∈l∧x≠o:=by
 obtain⟨hi,he⟩:=au.1 ho;have e:l=l.take i++o::l.drop (i+1):=by
  conv=>lhs;rw[←bX i l]
  rw[dQ hi,he]
 have hn':=hn;rw[e] at hn';have hp:=bD.1 hn';have h1:o∉l.take i:=fun q=>hp.2.2 o q o sI rfl
 have h2:o∉l.drop (i+1):=(aS.1 hp.2.1).1;constructor
 ·intro q
  refine⟨?_,fun r=> ?_⟩
  ·rw[e]
   rcases aD.1 q with q|q
   ·exact av _ q
   ·exact aj _ (ak _ q)
  ·subst r
   rcases aD.1 q with q|q
   ·exact h1 q
   ·exact h2 q
 ·rintro⟨q,r⟩
  rw[e] at q;rcases aD.1 q with q|q
  ·exact av _ q
  ·rcases aB.1 q with q|q
   ·exact absurd q r
   ·exact aj _ q
theorem MoI.give (h:MoI e l d) (hh:(nY d k).isSome=true) {i:Nat} (ho:l[i]?=some o):MoI e (l.take i++l.drop (i+1)) (kK e d k o).1:=by
 have hol:=aF ho;have hout:=h.za hol;obtain⟨g,hg⟩:=iU.1 hh;have hc:=Oe hg hout;have ec:(kK e d k o).1.c=d.c:=by unfold kK;rw[hg];simp only[hout,if_true]
 have hm: ∀x,x∈held (kK e d k o).1↔x∈held d∨x=o:=fun x=>by
  rw[←dO,←dO,hc x];by_cases q:o=x
  ·subst q;simp
  ·rw[if_neg q]
   constructor
   ·intro r;exact .inl om
   ·rintro(r|r)
    ·omega
    ·exact absurd r.symm q
 refine⟨?_,fun x hx=> ?_,fun x=> ?_⟩
 ·have:(l.take i++l.drop (i+1)).Sublist l:=by
   have:=(List.Sublist.refl (l.take i)).append (List.drop_sublist_drop_left l (Nat.le_succ i));rw[bX] at this;exact this
  exact h.nd.sublist this
 ·obtain⟨a,b⟩:=(Ed h.nd ho x).1 hx
  rw[hm];rintro(q|q)
  ·exact h.out x a q
  ·exact b q
 ·rw[ec,h.iff,hm,Ed h.nd ho]
  constructor
  ·rintro(q|q)
   ·by_cases r:x=o
    ·exact .inr (.inr r)
    ·exact .inl ⟨q,r⟩
   ·exact .inr (.inl q)
  ·rintro(⟨q,_⟩|q|q)
   ·exact .inl q
   ·exact .inr q
   ·subst q;exact .inl hol
def NoH (n:Nat) (d:De):Prop:=d.P=[]∧∀i,i<n→i<d.H.length→d.H[i]?=some ([],[])
end
noncomputable instance litDec:DecidableEq Lit:=fun a b=>Classical.propDecidable (a=b)
def rTok (v:Value):Option (DataW Value×List MemPlace):=some (.held v,[])
noncomputable def oq (L:List (Lit×Value)) (k:Lit):Option Value:=(L.find? fun p=>decide (p.1=k)).map (·.2)
noncomputable def BI (L:List (Lit×Value)) (k:Lit):List (Lit×Value):=L.filter fun p=> !decide (p.1=k)
structure pW (P:Program) (k:TypeId) (w:World) (b:Nat) (L:List (Lit×Value)):Prop where
 own: ∃D,w.ownsMap P k rTok b L.length D∧(∀kl z,WideAt.IsKeyLit kl→D.atKey kl z=((oq L kl).map DataW.held).getD z)∧(∀kl,WideAt.IsKeyLit kl→has D kl=(oq L kl).isSome)∧size D=L.length
 nd:(L.map (·.1)).Nodup
theorem mF (p:Lit×Value) (L:List (Lit×Value)) (k:Lit):oq (p::L) k=if p.1=k then some p.2 else oq L k:=by
 unfold oq;rw[gu];by_cases h:p.1=k<;>simp[h]
theorem xG (L:List (Lit×Value)) (k k':Lit):oq (BI L k) k'=if k=k' then none else oq L k':=by
 induction L with
 |nil=>simp[BI,oq]
 |cons p L ih=>
  unfold BI at ih ⊢;rw[gU];by_cases h:p.1=k
  ·simp only[h,decide_true,Bool.not_true,fE,if_false]
   rw[ih,mF];by_cases h2:k=k'
   ·simp[h2]
   ·simp[h,h2]
  ·simp only[h,decide_false,Bool.not_false,if_true]
   rw[mF,ih,mF];by_cases h2:k=k'
   ·subst h2;simp[h]
   ·simp[h2]
theorem Rf {L:List (Lit×Value)} {k:Lit} (h:oq L k=none): ∀p∈L,p.1≠k:=by
 intro p hp e;unfold oq at h;rw[iy,fZ] at h;exact h p hp (by simpa using e)
theorem Gf {L:List (Lit×Value)} {k:Lit} {v:Value} (h:oq L k=some v):(k,v)∈L:=by
 unfold oq at h;rw[dx] at h;obtain⟨p,h1,rfl⟩:=h;have:=gY h1;simp at this;subst this;exact dH h1
theorem Av {L:List (Lit×Value)} {k:Lit} (h:oq L k=none):BI L k=L:=by
 unfold BI;rw[dR];intro p hp;simp[Rf h p hp]
theorem Aw {L:List (Lit×Value)} (hn:(L.map (·.1)).Nodup) (k:Lit):(BI L k).length+(if (oq L k).isSome then 1 else 0)=L.length:=by
 induction L with
 |nil=>simp[BI,oq]
 |cons p L ih=>
  rw[bP,aS] at hn;have ih:=ih hn.2;by_cases h:p.1=k
  ·have hl:oq L k=none:=by
    cases hq:oq L k with
    |none=>rfl
    |some v=>exact absurd (bJ.2 ⟨_,Gf hq,h.symm⟩) hn.1
   have hd:=Av hl;rw[mF,if_pos h];unfold BI at hd ⊢;rw[gU];simp only[h,decide_true,Bool.not_true,fE,if_false];rw[hd];simp
  ·rw[mF,if_neg h]
   unfold BI at ih ⊢;rw[gU];simp only[h,decide_false,Bool.not_false,if_true,dF];omega
section
variable {P:Program} {k t e:TypeId} {w w':World} {b:Nat} {L L':List (Lit×Value)} {S:List Nat}
theorem pW.made (w:World) (P:Program) (k:TypeId):pW P k (w.alloc (.map #[] 0)) w.heap.size []:=
 ⟨⟨.map [],World.ownsMap_made w P k rTok,fun kl z hk=>by rw[atKey_of_not_has rf];rfl,fun kl _=>rfl,rfl⟩,eF⟩
theorem pW.keep (h:pW P k w b L) (hk:Keep S w w') (hb:b∉S):pW P k w' b L:=by
 obtain⟨D,h1,h2⟩:=h.own;refine⟨⟨D,?_,h2⟩,h.nd⟩;have hl:=h1.lt;obtain⟨es,clock,q1,q2,q3,q4⟩:=h1;exact⟨es,clock,(hk.block b hl hb).trans q1,q2,q3,q4⟩
theorem pW.below (h:pW P k w b L) (hk:Below w.heap.size w w'):pW P k w' b L:=h.keep (Keep.of (S:=[]) hk) sI
theorem pW.as (h:pW P k w b L) (hl: ∀kl,oq L' kl=oq L kl) (hn:(L'.map (·.1)).Nodup) (hs:L'.length=L.length):pW P k w b L':=by
 obtain⟨D,h1,h2,h3,h4⟩:=h.own;exact⟨⟨D,by rw[hs];exact h1,fun kl z q=>by rw[hl];exact h2 kl z q,fun kl q=>by rw[hl];exact h3 kl q,by rw[hs];exact h4⟩,hn⟩
theorem pW.look (h:pW P k w b L) (K:Keyed P k) (ht:P.underlying t=some (.map k e)) {z:Value} (hz:(zeroValue e).run P w= .ok z w) {key:Value} {kl:Lit} (hkey:keyOf P k key=some kl):
 (Instr.lookup t (.map (some b)) key true).run P w= .ok (.tuple #[(oq L kl).getD z,.bool (oq L kl).isSome]) w:=by
 obtain⟨D,h1,h2,h3,h4⟩:=h.own;obtain⟨v,ps,hr,hv⟩:=h1.look_ok K ht hz (R:=rTok) (zd:=.held z) (zp:=[]) rfl hkey;rw[hr,h3 kl (K.key hkey)];unfold rTok at hv;rw[h2 kl _ (K.key hkey)] at hv;cases hq:oq L kl with
 |none=>rw[hq] at hv;simp at hv;simp[hv]
 |some u=>rw[hq] at hv;simp at hv;simp[hv]
theorem pW.look1 (h:pW P k w b L) (K:Keyed P k) (ht:P.underlying t=some (.map k e)) {z:Value} (hz:(zeroValue e).run P w= .ok z w) {key:Value} {kl:Lit} (hkey:keyOf P k key=some kl):
 (Instr.lookup t (.map (some b)) key false).run P w= .ok ((oq L kl).getD z) w:=by
 obtain⟨D,h1,h2,h3,h4⟩:=h.own;obtain⟨v,ps,hr,hv⟩:=h1.lookup K ht hz (R:=rTok) (zd:=.held z) (zp:=[]) rfl hkey;rw[hr];unfold rTok at hv;rw[h2 kl _ (K.key hkey)] at hv;cases hq:oq L kl with
 |none=>rw[hq] at hv;simp at hv;simp[hv]
 |some u=>rw[hq] at hv;simp at hv;simp[hv]
theorem lM (h:w.mapTurned w' b) (hb:b∈S∨w.heap.size≤b):Keep S w w':=(Keep.refl S w).grown h.grown hb
theorem pW.put (h:pW P k w b L) (K:Keyed P k) (ht:P.underlying t=some (.map k e)) (hn:L.length<maxLen) {key val:Value} {kl:Lit} (hkey:keyOf P k key=some kl):
 ∃w',(Instr.mapUpdate t (.map (some b)) key val).run P w= .ok () w'∧pW P k w' b ((kl,val)::BI L kl)∧w.mapTurned w' b:=by
 obtain⟨D,h1,h2,h3,h4⟩:=h.own;obtain⟨w',hr,ho,hg⟩:=h1.store K ht hn (R:=rTok) (val:=val) (d:=.held val) (ps:=[]) hkey rfl;have kk:=K.key hkey;have hD:=h1.isMap;have hT:=h1.tidy K;have hs:=size_put hT (k:=kl) (DataW.held val);have hdl:=Aw h.nd kl;have hsz:size (D.put kl (.held val))=((kl,val)::BI L kl).length:=by
  rw[hs,h3 kl kk,h4,dF];split at hdl<;>simp_all<;>omega
 refine⟨w',hr,⟨⟨D.put kl (.held val),?_,fun kl' z q=> ?_,fun kl' q=> ?_,hsz⟩,?_⟩,hg⟩
 ·obtain⟨es,clock,q1,q2,q3,q4⟩:=ho
  refine⟨es,clock,q1,q2,?_,q4⟩;rw[←hsz,q4];simp[size,length_sorted]
 ·rw[mF]
  by_cases hne:kl=kl'
  ·subst hne;simp[atKey_put_same hD kk]
  ·rw[if_neg hne,atKey_put_other (fun q=>hne q.symm),xG,if_neg hne,h2 kl' z q]
 ·rw[mF]
  by_cases hne:kl=kl'
  ·subst hne;simp[has_put_same hD kk]
  ·rw[if_neg hne,has_put_other (fun q=>hne q.symm),xG,if_neg hne,h3 kl' q]
 ·rw[bP,aS]
  refine⟨fun q=> ?_,?_⟩
  ·obtain⟨p,hp,e⟩:=bJ.1 q
   unfold BI at hp;simp at hp;exact hp.2 e
  ·exact h.nd.sublist ((List.filter_sublist).map _)
theorem pW.drop (h:pW P k w b L) (K:Keyed P k) (ht:P.underlying t=some (.map k e)) {key:Value} {kl:Lit} (hkey:keyOf P k key=some kl) (ty:TypeId):
 ∃w',(Builtin.delete_ #[t,k] ty #[.map (some b),key]).run P w= .ok (.tuple #[]) w'∧pW P k w' b (BI L kl)∧w.mapTurned w' b:=by
 obtain⟨D,h1,h2,h3,h4⟩:=h.own;obtain⟨w',hr,ho,hg⟩:=h1.drop K ht hkey ty;have kk:=K.key hkey;have hT:=h1.tidy K;have hs:=size_del hT (k:=kl);have hdl:=Aw h.nd kl;have hsz:size (D.del kl)=(BI L kl).length:=by
  rw[h3 kl kk,h4] at hs;omega
 refine⟨w',hr,⟨⟨D.del kl,?_,fun kl' z q=> ?_,fun kl' q=> ?_,hsz⟩,h.nd.sublist ((List.filter_sublist).map _)⟩,hg⟩
 ·obtain⟨es,clock,q1,q2,q3,q4⟩:=ho
  refine⟨es,clock,q1,q2,?_,q4⟩;rw[←hsz,q4];simp[size,length_sorted]
 ·rw[xG]
  by_cases hne:kl=kl'
  ·subst hne;simp[atKey_del_same]
  ·rw[if_neg hne,atKey_del_other (fun q=>hne q.symm),h2 kl' z q]
 ·rw[xG]
  by_cases hne:kl=kl'
  ·subst hne;simp[has_del_same]
  ·rw[if_neg hne,has_del_other (fun q=>hne q.symm),h3 kl' q]
theorem pW.len (h:pW P k w b L) (ht:P.underlying t=some (.map k e)) (ty:TypeId):(Builtin.len_ #[t] ty #[.map (some b)]).run P w= .ok (.int .i64 L.length) w:=by
 obtain⟨D,h1,h2,h3,h4⟩:=h.own;rw[h1.len ht ty,h4]
theorem xH {L:List (Lit×Value)} (hn:(L.map (·.1)).Nodup) {k:Lit} {v:Value}:oq L k=some v↔(k,v)∈L:=by
 refine⟨Gf,fun h=> ?_⟩;induction L with
 |nil=>cases h
 |cons p L ih=>
  rw[bP,aS] at hn;rw[mF];rcases aB.1 h with q|q
  ·subst q;simp
  ·rw[if_neg (fun r=>hn.1 (bJ.2 ⟨_,q,r.symm⟩))]
   exact ih hn.2 q
theorem Rh (hn:(L.map (·.1)).Nodup) (hp:L.Perm L') (k:Lit):oq L' k=oq L k:=by
 have hn':(L'.map (·.1)).Nodup:=(hp.map _).nodup_iff.1 hn;cases h:oq L k with
 |some v=>exact(xH hn').2 (hp.mem_iff.1 ((xH hn).1 h))
 |none=>
  cases h':oq L' k with
  |none=>rfl
  |some v=>
   have:=(xH hn).2 (hp.mem_iff.2 ((xH hn').1 h'));rw[h] at this;cases this
theorem pW.perm (h:pW P k w b L) (hp:L.Perm L'):pW P k w b L':=h.as (Rh h.nd hp) ((hp.map _).nodup_iff.1 h.nd) hp.length_eq.symm
end
theorem Ow:Keyed Tryz.prog 40:=Keyed.of_law (deep_law_laid kR (m:=2) om (of_decide_eq_true kR) kR kR)
def pE (o:Ob):Prop:=kL o.1∧kL o.2
theorem wf64 {a:Int} (h:kL a):(Lit.int .i64 a).wf=true:=by
 unfold kL at h;simp[Lit.wf,IntKind.min,IntKind.max,IntKind.signed,IntKind.bits];omega
def kO (o:Ob):Lit:=.string (keyBytes [.int .i64 o.1,.int .i64 o.2])
theorem keyLits_int {a:Int} (h:kL a) (n:Nat):Tryz.prog.keyLits (n+1) 3 [.int .i64 a]=some [.int .i64 a]:=by
 unfold Program.keyLits;rw[bE];simp[wf64 h]
theorem keyO {o:Ob} (h:pE o):keyOf Tryz.prog 40 (.agg #[.int .i64 o.1,.int .i64 o.2])=some (kO o):=by
 have u:=iB;have k1:Tryz.prog.keyType 40=true:=kR;have f1:(Value.agg #[.int .i64 o.1,.int .i64 o.2]).formed Tryz.prog 40=true:=by
  have c:Tryz.prog.cellsOf 40=2:=kR;simp[Value.formed,u,c]
 have l1:Tryz.prog.keyLits (Tryz.prog.types.size+1) 40 [.int .i64 o.1,.int .i64 o.2]=some [.int .i64 o.1,.int .i64 o.2]:=by
  have c:Tryz.prog.cellsOf 40=2:=kR;have c1:Tryz.prog.cellsOf 3=1:=kR;have hp:0<Tryz.prog.types.size:=of_decide_eq_true kR;obtain⟨n,hn⟩: ∃n,Tryz.prog.types.size=n+1:=⟨Tryz.prog.types.size-1,om⟩;rw[hn];unfold Program.keyLits;rw[u];simp[c,c1,keyLits_int h.1,keyLits_int h.2]
 unfold keyOf;rw[u];simp only[k1,f1,Bool.and_self,if_true];rw[show(Value.agg #[.int .i64 o.1,.int .i64 o.2]).cells.toList=[.int .i64 o.1,.int .i64 o.2] from rfl,l1];rfl
theorem kO_inj {a b:Ob} (ha:pE a) (hb:pE b) (h:kO a=kO b):a=b:=by
 have h1:=keyO ha;rw[h] at h1;have:=Ow.inj h1 (keyO hb);simp at this;exact Prod.ext this.1 this.2
noncomputable def D9 (T:List Ob):List (Lit×Value):=T.map fun o=>(kO o,.bool true)
def BJ (G:List (Int×Ob)):List (Lit×Value):=G.map fun g=>(.int .i64 g.1,.agg #[.int .i64 g.2.1,.int .i64 g.2.2])
theorem Ox {T:List Ob} {o:Ob} (hT: ∀x∈T,pE x) (ho:pE o):oq (D9 T) (kO o)=if o∈T then some (.bool true) else none:=by
 induction T with
 |nil=>rfl
 |cons a T ih=>
  have ih:=ih fun x hx=>hT x (ak _ hx)
  unfold D9 at ih ⊢;rw[bP,mF,ih];by_cases q:a=o
  ·subst q;simp
  ·have:kO a≠kO o:=fun r=>q (kO_inj (hT a (aG ..)) ho r)
   have q2: ¬o=a:=fun r=>q r.symm
   rw[if_neg this];simp[q2]
theorem del_set {T:List Ob} {o:Ob} (hn:T.Nodup) (hT: ∀x∈T,pE x) (ho:pE o):BI (D9 T) (kO o)=D9 (T.erase o):=by
 rw[List.Nodup.erase_eq_filter hn];unfold BI D9;rw[jo];congr 1
 apply jc;intro x hx;by_cases q:x=o
 ·subst q;simp
 ·have:kO x≠kO o:=fun r=>q (kO_inj (hT x hx) ho r)
  simp[this,q]
theorem Oy {G:List (Int×Ob)} (t:Int):oq (BJ G) (.int .i64 t)=((G.find? fun g=>g.1==t).map (·.2)).map fun o=>.agg #[.int .i64 o.1,.int .i64 o.2]:=by
 induction G with
 |nil=>rfl
 |cons g G ih=>
  have e:BJ (g::G)=(.int .i64 g.1,.agg #[.int .i64 g.2.1,.int .i64 g.2.2])::BJ G:=rfl;rw[e,mF,ih,gu];by_cases q:g.1=t
  ·subst q;simp
  ·have: ¬(Lit.int .i64 g.1= .int .i64 t):=fun r=>q (by injection r)
   have q2:(g.1==t)=false:=by simpa using q
   rw[if_neg this,q2]
theorem del_map {G:List (Int×Ob)} (t:Int):BI (BJ G) (.int .i64 t)=BJ (G.filter fun g=>g.1 !=t):=by
 unfold BI BJ;rw[jo];congr 1
 apply jc;intro g hg;by_cases q:g.1=t
 ·subst q;simp
 ·have: ¬(Lit.int .i64 g.1= .int .i64 t):=fun r=>q (by injection r)
  simp[this,q]
structure Po where
 d:De
 most:Nat
 R:List Ob
 T:List Ob
 W:List Int
 G:List (Int×Ob)
 last:Int
 cl:Bool
def lW (p:Po):Po×Nat:=if 8≤p.W.length then(p,10) else(⟨p.d,p.most,p.R,p.T,p.W++[p.last+1],p.G,p.last+1,p.cl⟩,8)
def lU (p:Po) (k:Int):Bool:=decide (0≤k∧k<p.d.H.length)
def um (p:Po) (v:Int):Bool:=decide (0≤v∧v<p.d.c.L.length)
def Po.atD (p:Po) (d:De):Po:=⟨d,p.most,p.R,p.T,p.W,p.G,p.last,p.cl⟩
def jO (mn:Int) (O:List (List Int)) (e:Nat) (p:Po) (k v:Int):Po×Nat×Ob:=
 if p.cl=true then(p,4,(0,0)) else
 if lU p k=false∨um p v=false then(p,2,(0,0)) else
 if p.W≠[] then((lW p).1,(lW p).2,(0,0)) else
 if (takeD mn O e p.d k v false).2.1=0 then
  (⟨(takeD mn O e p.d k v false).1,p.most,p.R,p.T++[(takeD mn O e p.d k v false).2.2],p.W,p.G,p.last,p.cl⟩,0,(takeD mn O e p.d k v false).2.2) else
 match p.R.getLast? with
 |none=>((lW (p.atD (takeD mn O e p.d k v false).1)).1,(lW (p.atD (takeD mn O e p.d k v false).1)).2,(0,0))
 |some o=>(⟨(takeD mn O e p.d k v false).1,p.most,p.R.dropLast,p.T++[o],p.W,p.G,p.last,p.cl⟩,0,o)
def Ee (e:Nat) (p:Po) (k:Int) (o:Ob):Po×Nat:=
 match p.W with
 |t::W=>(⟨p.d,p.most,p.R,p.T.erase o,W,p.G++[(t,o)],p.last,p.cl⟩,0)
 |[]=>if p.R.length<p.most then(⟨p.d,p.most,p.R++[o],p.T.erase o,[],p.G,p.last,p.cl⟩,0)
  else(⟨(kK e p.d k o).1,p.most,p.R,p.T.erase o,[],p.G,p.last,p.cl⟩,(kK e p.d k o).2)
def mg (e:Nat) (p:Po) (k:Int) (o:Ob):Po×Nat:=
 if p.cl=true then(p,4) else if lU p k=false then(p,2) else if o∈p.T then Ee e p k o else(p,9)
def oC (G:List (Int×Ob)) (t:Int):Option Ob:=(G.find? fun g=>g.1==t).map (·.2)
def GX (G:List (Int×Ob)) (t:Int):List (Int×Ob):=G.filter fun g=>g.1 !=t
def Po.fetch (p:Po) (t:Int) (o:Ob):Po:=⟨p.d,p.most,p.R,p.T++[o],p.W,GX p.G t,p.last,p.cl⟩
def mM (p:Po) (t:Int):Po×Nat×Bool×Ob:=
 if p.cl=true then(p,4,false,(0,0)) else if t∈p.W then(p,0,false,(0,0)) else
 match oC p.G t with
 |none=>(p,4,false,(0,0))
 |some o=>(p.fetch t o,0,true,o)
def o8 (e:Nat) (p:Po) (t:Int):Po×Nat:=
 if p.cl=true then(p,4) else if t∈p.W then(⟨p.d,p.most,p.R,p.T,p.W.erase t,p.G,p.last,p.cl⟩,0) else
 match oC p.G t with
 |none=>(p,4)
 |some o=>mg e (p.fetch t o) 0 o
def lH (e:Nat) (d:De) (l:List Ob):De:=l.foldl (fun d o=>(kK e d 0 o).1) d
def uG (e:Nat) (p:Po):Po×Nat:=
 if p.cl=true then(p,4) else if 0<p.T.length+p.W.length+p.G.length then(p,6) else
 (⟨lH e p.d p.R,p.most,[],p.T,p.W,p.G,p.last,true⟩,0)
def Po.obs (p:Po):List Ob:=p.R++(p.T++p.G.map (·.2))
structure mO (e:Nat) (p:Po):Prop where
 inv:oH e p.d
 mo: ∃l,MoI e l p.d∧∀x∈p.obs,x∈l
 nd:p.obs.Nodup
 m1:1≤p.most∧p.most≤16
 r:p.R.length≤p.most
 w:p.W.length≤8
 asc:p.W.Pairwise (· < ·)
 wl: ∀t∈p.W,1≤t∧t≤p.last
 gn:(p.G.map (·.1)).Nodup
 gl: ∀g∈p.G,1≤g.1∧g.1≤p.last
 wg: ∀g∈p.G,g.1∉p.W
 l0:0≤p.last
section
variable {mn:Int} {O:List (List Int)} {e:Nat} {p:Po} {k v t:Int} {o:Ob} {d:De}
theorem Iy {c:Ca} {u:Bool} (h0:0≤v) (h1:v<c.L.length):(takeC mn O e c v u).2.1=0∨(takeC mn O e c v u).2.1=5∨(takeC mn O e c v u).2.1=7:=by
 unfold takeC;rw[if_neg om];cases hb:mX v c.C c.C.length with
 |some i=>
  obtain⟨_,s,hs,_⟩:=lQ hb;simp[hs]
 |none=>
  simp only;split
  ·simp
  ·rename_i hz
   show(kU mn O c.L v 0 u).2.1=0∨(kU mn O c.L v 0 u).2.1=5∨(kU mn O c.L v 0 u).2.1=7;unfold kU;rw[if_neg om];split
   ·right;unfold Cx;split<;>simp
   split
   ·simp
   split<;>simp
theorem wP (h0:0≤k) (h1:k<d.H.length):(nY d k).isSome=true:=by
 unfold nY;rw[if_neg om,aA om];rfl
theorem Iz {u:Bool} (h0:0≤k) (h1:k<d.H.length) (v0:0≤v) (v1:v<d.c.L.length):(takeD mn O e d k v u).2.1=0∨(takeD mn O e d k v u).2.1=5∨(takeD mn O e d k v u).2.1=7:=by
 obtain⟨g,hg⟩:=iU.1 (wP h0 h1);cases hl:(lZ g d.P).1.1.getLast? with
 |some o=>rw[mD hg hl];simp
 |none=>rw[mV hg hl];exact Iy v0 v1
theorem mO.Ri (h:mO e p):mO e (lW p).1:=by
 unfold lW;split
 ·exact h
 ·have hl:=h.l0
  refine⟨h.inv,h.mo,h.nd,h.m1,h.r,by simp;omega,?_,fun t ht=> ?_,h.gn,fun g hg=> ?_,fun g hg q=> ?_,by simp only;omega⟩
  ·rw[dM]
   refine⟨h.asc,sI,fun a ha b hb=> ?_⟩;simp at hb;have:=(h.wl a ha).2;omega
  ·rcases aD.1 ht with q|q
   ·have:=h.wl t q;simp only;omega
   ·simp at q;simp only;omega
  ·have:=h.gl g hg;simp only;omega
  ·rcases aD.1 q with q|q
   ·exact h.wg g hg q
   ·simp at q;have:=h.gl g hg;omega
theorem mO.atD (h:mO e p) {l:List Ob} (hI:oH e d) (hm:MoI e l d) (hs: ∀x∈p.obs,x∈l):mO e (p.atD d):=
 ⟨hI,⟨l,hm,hs⟩,h.nd,h.m1,h.r,h.w,h.asc,h.wl,h.gn,h.gl,h.wg,h.l0⟩
theorem mO.take (hO:qY O p.d.c.L.length) (h:mO e p) (k v:Int):mO e (jO mn O e p k v).1:=by
 unfold jO;split
 ·exact h
 split
 ·exact h
 split
 ·exact h.Ri
 obtain⟨l,hm,hs⟩:=h.mo;have hI:=qI (mn:=mn) (O:=O) (k:=k) (v:=v) (u:=false) hO h.inv;have ht:=MoI.take (mn:=mn) (O:=O) hO h.inv hm k v false;split
 ·rename_i h0
  rcases ht with⟨_,h1,h2⟩|⟨h1,_⟩
  ·have hn:(takeD mn O e p.d k v false).2.2∉p.obs:=fun q=>h1 (hs _ q)
   refine⟨hI,⟨_,h2,fun x hx=> ?_⟩,?_,h.m1,h.r,h.w,h.asc,h.wl,h.gn,h.gl,h.wg,h.l0⟩
   ·unfold Po.obs at hx
    simp only[aD,bN] at hx ⊢;have:=hs x;unfold Po.obs at this;simp only[aD] at this;rcases hx with q|(q|q)|q
    ·exact .inl (this (.inl q))
    ·exact .inl (this (.inr (.inl q)))
    ·exact .inr q
    ·exact .inl (this (.inr (.inr q)))
   ·have e1:(⟨(takeD mn O e p.d k v false).1,p.most,p.R,p.T++[(takeD mn O e p.d k v false).2.2],p.W,p.G,p.last,p.cl⟩:Po).obs.Perm ((takeD mn O e p.d k v false).2.2::p.obs):=by
     unfold Po.obs;simp only;refine List.Perm.trans ?_ gT;refine gG _ ?_;rw[bS];exact gT
    exact e1.nodup_iff.2 (aS.2 ⟨hn,h.nd⟩)
  ·exact absurd h0 h1
 ·rename_i h0
  rcases ht with⟨h1,_⟩|⟨_,h2⟩
  ·exact absurd h1 h0
  ·cases hr:p.R.getLast? with
   |none=>exact(h.atD hI h2 hs).Ri
   |some o=>
    have er:p.R=p.R.dropLast++[o]:=by
     obtain⟨hne,hx⟩:=gI.1 hr;rw[hx];simp
    have e1:(⟨(takeD mn O e p.d k v false).1,p.most,p.R.dropLast,p.T++[o],p.W,p.G,p.last,p.cl⟩:Po).obs.Perm p.obs:=by
     unfold Po.obs;simp only;conv=>rhs;rw[er]
     rw[bS,bS];refine gG _ ?_;exact gT
    refine⟨hI,⟨l,h2,fun x hx=>hs x (e1.mem_iff.1 hx)⟩,e1.nodup_iff.2 h.nd,h.m1,?_,h.w,h.asc,h.wl,h.gn,h.gl,h.wg,h.l0⟩;simp only[List.length_dropLast];have:=h.r;omega
theorem perm_obs {R T:List Ob} {G:List (Int×Ob)} (o:Ob) (t:Int):(R++(T++(G++[(t,o)]).map (·.2))).Perm (o::(R++(T++G.map (·.2)))):=by
 simp only[dI,bP,dW];rw[←bS,←bS];refine jk.trans ?_;simp
theorem Gg (h:o∈p.T):p.obs.Perm (o::(p.R++(p.T.erase o++p.G.map (·.2)))):=by
 unfold Po.obs;refine List.Perm.trans ?_ gT;exact gG _ ((List.perm_cons_erase h).append_right _)
theorem mO.back (h:mO e p) (ho:o∈p.T) (hk:lU p k=true):mO e (Ee e p k o).1:=by
 have pe:=Gg ho;have nd:=pe.nodup_iff.1 h.nd;obtain⟨n1,n2⟩:=aS.1 nd;obtain⟨l,hm,hs⟩:=h.mo;unfold Ee;split
 ·rename_i t W hW
  have hw:=h.w;have ha:=h.asc;rw[hW] at hw ha;have e1:(⟨p.d,p.most,p.R,p.T.erase o,W,p.G++[(t,o)],p.last,p.cl⟩:Po).obs.Perm p.obs:=(perm_obs o t).trans pe.symm;refine⟨h.inv,⟨l,hm,fun x hx=>hs x (e1.mem_iff.1 hx)⟩,e1.nodup_iff.2 h.nd,h.m1,h.r,by simp at hw ⊢;omega,(bM.1 ha).2,fun s q=>h.wl s (by rw[hW];exact ak _ q),?_,fun g hg=> ?_,fun g hg q=> ?_,h.l0⟩
  ·simp only[dI,bP,dW]
   rw[bD];refine⟨h.gn,sI,fun a ha' b hb q=> ?_⟩;simp at hb;subst hb q;obtain⟨g,hg,hge⟩:=bJ.1 ha';exact h.wg g hg (by rw[hge,hW];exact aG ..)
  ·rcases aD.1 hg with q|q
   ·exact h.gl g q
   ·simp at q;subst q;exact h.wl t (by rw[hW];exact aG ..)
  ·rcases aD.1 hg with r|r
   ·exact h.wg g r (by rw[hW];exact ak _ q)
   ·simp at r;subst r
    have:=(bM.1 ha).1 _ q;simp at this
 ·rename_i hW
  split
  ·rename_i hr
   have e1:(⟨p.d,p.most,p.R++[o],p.T.erase o,[],p.G,p.last,p.cl⟩:Po).obs.Perm p.obs:=by
    refine List.Perm.trans ?_ pe.symm;unfold Po.obs;simp only;rw[bS];exact gT
   exact⟨h.inv,⟨l,hm,fun x hx=>hs x (e1.mem_iff.1 hx)⟩,e1.nodup_iff.2 h.nd,h.m1,by simp;omega,sI,List.Pairwise.nil,fun s q=>(by cases q),h.gn,h.gl,fun g hg q=>(by cases q),h.l0⟩
  ·unfold lU at hk
   simp at hk;obtain⟨i,hi,hx⟩:=iG.1 (hs o (pe.mem_iff.2 (aG ..)));have hg:=hm.give (k:=k) (wP hk.1 hk.2) (au.2 ⟨hi,hx⟩);refine⟨xw h.inv,⟨_,hg,fun x hx'=> ?_⟩,n2,h.m1,h.r,sI,List.Pairwise.nil,fun s q=>(by cases q),h.gn,h.gl,fun g hg q=>(by cases q),h.l0⟩;refine(Ed hm.nd (au.2 ⟨hi,hx⟩) x).2 ⟨hs x (pe.mem_iff.2 (ak _ hx')),fun q=> ?_⟩;subst q;exact n1 hx'
theorem mO.give (h:mO e p) (k:Int) (o:Ob):mO e (mg e p k o).1:=by
 unfold mg;split
 ·exact h
 split
 ·exact h
 rename_i hw;split
 ·rename_i ho
  exact h.back ho (by simpa using hw)
 ·exact h
theorem UK (h:oC p.G t=some o):(t,o)∈p.G:=by
 unfold oC at h;rw[dx] at h;obtain⟨g,h1,rfl⟩:=h;have h2:=gY h1;simp at h2;subst h2;exact dH h1
theorem UM {G:List (Int×Ob)} (hn:(G.map (·.1)).Nodup) (h:(t,o)∈G):G.Perm ((t,o)::GX G t):=by
 induction G with
 |nil=>cases h
 |cons a G ih=>
  rw[bP,aS] at hn;unfold GX at ih ⊢;rw[gU];rcases aB.1 h with q|q
  ·subst q
   have hf:G.filter (fun g=>g.1 !=t)=G:=by
    rw[dR];intro g hg;simp only[bne_iff_ne,ne_eq];intro r;exact hn.1 (bJ.2 ⟨g,hg,r⟩)
   simp[hf]
  ·have hne:a.1≠t:=fun r=>hn.1 (bJ.2 ⟨_,q,r.symm⟩)
   simp only[bne_iff_ne,ne_eq,hne,not_false_eq_true,if_true];exact((ih hn.2 q).cons a).trans (List.Perm.swap ..)
theorem mO.fetch (h:mO e p) (hf:oC p.G t=some o):mO e (p.fetch t o)∧o∉p.T:=by
 have hm:=UK hf;have pg:=UM h.gn hm;have e1:(p.fetch t o).obs.Perm p.obs:=by
  unfold Po.obs Po.fetch;simp only;refine gG _ ?_;rw[bS];refine gG _ ?_;exact(pg.map (·.2)).symm
 obtain⟨l,h1,h2⟩:=h.mo;have gs: ∀g∈GX p.G t,g∈p.G∧g.1≠t:=fun g hg=>by
  unfold GX at hg;simpa using hg
 refine⟨⟨h.inv,⟨l,h1,fun x hx=>h2 x (e1.mem_iff.1 hx)⟩,e1.nodup_iff.2 h.nd,h.m1,h.r,h.w,h.asc,h.wl,h.gn.sublist ((List.filter_sublist).map _),fun g hg=>h.gl g (gs g hg).1,fun g hg=>h.wg g (gs g hg).1,h.l0⟩,fun q=> ?_⟩;have nd:=h.nd;unfold Po.obs at nd;have:=(bD.1 (bD.1 nd).2.1).2.2 o q o (bJ.2 ⟨_,hm,rfl⟩);exact this rfl
theorem mO.ready (h:mO e p) (t:Int):mO e (mM p t).1:=by
 unfold mM;split
 ·exact h
 split
 ·exact h
 split
 ·exact h
 ·rename_i o hf
  exact(h.fetch hf).1
theorem mO.cancel (h:mO e p) (t:Int):mO e (o8 e p t).1:=by
 unfold o8;split
 ·exact h
 split
 ·have hs:(p.W.erase t).Sublist p.W:=List.erase_sublist
  exact⟨h.inv,h.mo,h.nd,h.m1,h.r,bW hs.length_le h.w,h.asc.sublist hs,fun s q=>h.wl s (hs.subset q),h.gn,h.gl,fun g hg q=>h.wg g hg (hs.subset q),h.l0⟩
 split
 ·exact h
 ·rename_i o hf
  exact(h.fetch hf).1.give 0 o
end
def pws (pp bt bg:Nat) (vw:Value):List Nat:=pp::bt::bg::jF vw
def jT (pd bt bg:Nat) (vr vw:Value) (p:Po):List Value:=[.pointer (some ⟨pd,0,none⟩),.int .i64 p.most,vr,.map (some bt),vw,.map (some bg),.int .i64 p.last,.bool p.cl]
structure PoB (X:List Nat) (B:Nat) (w:World) (pp pd bt bg:Nat) (vr vw:Value) (p:Po):Prop where
 c:jD w pp (jT pd bt bg vr vw p)
 r:lG X w vr p.R
 t:pW Tryz.prog 40 w bt (D9 p.T)
 ow:w.ownsRow B 3 1 vw p.W.length (ints p.W)
 g:pW Tryz.prog 3 w bg (BJ p.G)
 nd:(pws pp bt bg vw).Nodup
 lim: ∀y∈pws pp bt bg vw,B≤y∧y<w.heap.size
section
variable {X Y S F G:List Nat} {B:Nat} {w w' w1 w2:World} {pp pd bt bg:Nat} {vr vw vr' vw':Value} {p p':Po}
theorem mG:pp∈pws pp bt bg vw:=aG ..
theorem mP:bt∈pws pp bt bg vw:=ak _ (aG ..)
theorem rz:bg∈pws pp bt bg vw:=ak _ (ak _ (aG ..))
theorem IC {y:Nat} (h:y∈jF vw):y∈pws pp bt bg vw:=ak _ (ak _ (ak _ h))
theorem PoB.keep (h:PoB X B w pp pd bt bg vr vw p) (k:Keep S w w') (hs: ∀s∈S,s∉pws pp bt bg vw∧(s∈X∨w.heap.size≤s)):PoB X B w' pp pd bt bg vr vw p:=
 ⟨h.c.keep k fun q=>(hs _ q).1 mG,h.r.keep k fun s q=>(hs s q).2,h.t.keep k fun q=>(hs _ q).1 mP,jE h.ow k fun s q r=>(hs s q).1 (IC r),h.g.keep k fun q=>(hs _ q).1 rz,h.nd,
  fun y hy=>⟨(h.lim y hy).1,aC (h.lim y hy).2 k.size⟩⟩
theorem PoB.below (h:PoB X B w pp pd bt bg vr vw p) (k:Below w.heap.size w w'):PoB X B w' pp pd bt bg vr vw p:=h.keep (Keep.of (S:=[]) k) (fun _ q=>by cases q)
theorem PoB.more (h:PoB X B w pp pd bt bg vr vw p) (hY: ∀y∈Y,y∈X∨w.heap.size≤y):PoB Y B w pp pd bt bg vr vw p:=⟨h.c,h.r.more hY,h.t,h.ow,h.g,h.nd,h.lim⟩
theorem PoB.atD (h:PoB X B w pp pd bt bg vr vw p) (d:De):PoB X B w pp pd bt bg vr vw (p.atD d):=⟨h.c,h.r,h.t,h.ow,h.g,h.nd,h.lim⟩
theorem PoB.ne (h:PoB X B w pp pd bt bg vr vw p):pp≠bt∧pp≠bg∧bt≠bg∧pp∉jF vw∧bt∉jF vw∧bg∉jF vw:=by
 obtain⟨n1,n2⟩:=aS.1 h.nd;obtain⟨n3,n4⟩:=aS.1 n2;obtain⟨n5,_⟩:=aS.1 n4;simp only[aB,not_or] at n1 n3;exact⟨n1.1,n1.2.1,n3.1,n1.2.2,n3.2,n5⟩
end
section
variable {pd pc pz e:Nat} {mn:Int} {O:List (List Int)} {ev:Nat→Addr} {w0:World}
structure PoT (E:tu pd pc pz e mn O ev w0) (X F:List Nat) (pp bt bg:Nat) (vr vw:Value) (p:Po) (w:World):Prop where
 s:E.S X (pws pp bt bg vw++F) p.d w
 b:PoB X w0.heap.size w pp pd bt bg vr vw p
 f: ∀f∈F,f∉pws pp bt bg vw
def PoX (E:tu pd pc pz e mn O ev w0) (X F:List Nat) (pp:Nat) (p:Po) (w:World):Prop:=(∃bt bg vr vw,PoT E X F pp bt bg vr vw p w)∧mO e p
def mH (E:tu pd pc pz e mn O ev w0) (X F:List Nat) (pp:Nat) (p':Po) (w w':World):Prop:=
 ∃X',PoX E X' F pp p' w'∧Keep (off X F) w w'∧(∀x∈X',x∈X∨w.heap.size≤x)∧∀x∈X,x∈X'
def PPost (E:tu pd pc pz e mn O ev w0) (X F:List Nat) (pp:Nat) (p':Po) (w:World) (r:Value) (en:Ending) (w':World):Prop:=en= .returned r∧mH E X F pp p' w w'
variable {E:tu pd pc pz e mn O ev w0} {X X' Y S F G:List Nat} {w w' w1 w2:World} {pp bt bg:Nat} {vr vw vr' vw':Value} {p p':Po} {d:De} {r:Value} {en:Ending}
theorem PoT.go (h:PoT E X F pp bt bg vr vw p w) (k:Below w.heap.size w w'):PoT E X F pp bt bg vr vw p w':=⟨E.go h.s k,h.b.below k,h.f⟩
theorem PoX.go (h:PoX E X F pp p w) (k:Below w.heap.size w w'):PoX E X F pp p w':=by
 obtain⟨⟨bt,bg,vr,vw,q⟩,i⟩:=h;exact⟨⟨bt,bg,vr,vw,q.go k⟩,i⟩
theorem PoX.bel (h:PoX E X F pp p w):Below w0.heap.size w0 w:=by
 obtain⟨⟨bt,bg,vr,vw,q⟩,i⟩:=h;exact E.bel q.s
theorem PoX.lim (h:PoX E X F pp p w): ∀x∈X,w0.heap.size≤x∧x<w.heap.size:=by
 obtain⟨⟨bt,bg,vr,vw,q⟩,i⟩:=h;exact E.lim q.s
theorem PoX.qR (h:PoX E X F pp p w): ∀f∈F,f∈X:=by
 obtain⟨⟨bt,bg,vr,vw,q⟩,i⟩:=h;exact fun f hf=>E.qR q.s f (aj _ hf)
theorem PoT.inX (h:PoT E X F pp bt bg vr vw p w): ∀y∈pws pp bt bg vw,y∈X:=fun y hy=>E.qR h.s y (av _ hy)
theorem mH.same (h:PoX E X F pp p w) (k:Below w.heap.size w w'):mH E X F pp p w w':=⟨X,h.go k,Keep.of k,fun _ q=>.inl q,fun _ q=>q⟩
theorem mH.refl (h:PoX E X F pp p w):mH E X F pp p w w:=mH.same h (aO _ _)
theorem mH.ahead (hk:Below w.heap.size w w1) (h:mH E X F pp p' w1 w2):mH E X F pp p' w w2:=by
 obtain⟨X',h1,h2,h3,h4⟩:=h;have z:=hk.size;exact⟨X',h1,(Keep.of hk).then h2,fun x q=>(h3 x q).imp id (fun r=>om),h4⟩
theorem mH.behind (h:mH E X F pp p' w w1) (hk:Below w1.heap.size w1 w2):mH E X F pp p' w w2:=by
 obtain⟨X',h1,h2,h3,h4⟩:=h;exact⟨X',h1.go hk,h2.step hk,h3,h4⟩
theorem Gh (h: ∀x∈X',x∈X∨w.heap.size≤x) (hk:Keep (off X F) w w1) (hk2:Keep (off X' F) w1 w2):Keep (off X F) w w2:=hk.trans hk2 fun s q=>by
 obtain⟨q1,q2⟩:=jJ.1 q;exact(h s q1).imp (fun r=>jJ.2 ⟨r,q2⟩) id
theorem PoT.put (h:PoT E X F pp bt bg vr vw p w) (k:Keep (pws pp bt bg vw) w w') (Y:List Nat) (hY: ∀y∈Y,w.heap.size≤y∧y<w'.heap.size) (hw: ∀y∈jF vw',y∈jF vw∨y∈Y)
 (hb:PoB (Y++X) w0.heap.size w' pp pd bt bg vr' vw' p') (hd:p'.d=p.d) (hi:mO e p'):mH E X F pp p' w w':=by
 have hsub: ∀y∈pws pp bt bg vw',y∈Y++pws pp bt bg vw:=fun y hy=>by
  rcases aB.1 hy with q|q
  ·subst q;exact aj _ mG
  rcases aB.1 q with q|q
  ·subst q;exact aj _ mP
  rcases aB.1 q with q|q
  ·subst q;exact aj _ rz
  rcases hw y q with r|r
  ·exact aj _ (IC r)
  ·exact av _ r
 have s1:=E.tQ (Y:=Y) h.s k (fun g q=>av _ q) hY;refine⟨Y++X,⟨⟨bt,bg,vr',vw',?_,hb,fun f hf q=> ?_⟩,hi⟩,k.mono fun s q=>jJ.2 ⟨h.inX s q,fun r=>h.f s r q⟩,fun x q=> ?_,fun x q=>aj _ q⟩
 ·rw[hd]
  refine E.uI s1 fun g q=> ?_
  rcases aD.1 q with r|r
  ·rcases aD.1 (hsub g r) with t|t
   ·exact av _ t
   ·exact aj _ (av _ t)
  ·exact aj _ (aj _ r)
 ·rcases aD.1 (hsub f q) with r|r
  ·have:=(hY f r).1
   have:=(E.lim h.s f (E.qR h.s f (aj _ hf))).2;omega
  ·exact h.f f hf r
 ·rcases aD.1 q with r|r
  ·exact .inr (hY x r).1
  ·exact .inl r
theorem PoT.putW (h:PoT E X F pp bt bg vr vw p w) (k:Keep (pws pp bt bg vw) w w') (hw: ∀y∈jF vw',y∈jF vw∨(w.heap.size≤y∧y<w'.heap.size)) (hc:jD w' pp (jT pd bt bg vr vw' p'))
 (hT:pW Tryz.prog 40 w' bt (D9 p'.T)) (hW:w'.ownsRow w0.heap.size 3 1 vw' p'.W.length (ints p'.W)) (hG:pW Tryz.prog 3 w' bg (BJ p'.G)) (hR:p'.R=p.R) (hd:p'.d=p.d) (hi:mO e p'):mH E X F pp p' w w':=by
 obtain⟨m1,m2,m3,m4,m5,m6⟩:=h.b.ne;have far: ∀y,y∈pws pp bt bg vw→y∉jF vw→y∉jF vw':=fun y hy hn q=>by
  rcases hw y q with r|r
  ·exact hn r
  ·have:=(h.b.lim y hy).2;omega
 have hY: ∀y∈(jF vw').filter (fun y=>decide (w.heap.size≤y)),w.heap.size≤y∧y<w'.heap.size:=fun y hy=>by
  obtain⟨q1,q2⟩:=bF.1 hy;have q2:w.heap.size≤y:=of_decide_eq_true q2;rcases hw y q1 with r|r
  ·have:=(h.b.lim y (IC r)).2;omega
  ·exact r
 have hw2: ∀y∈jF vw',y∈jF vw∨y∈(jF vw').filter (fun y=>decide (w.heap.size≤y)):=fun y hy=>(hw y hy).imp id fun r=>bF.2 ⟨hy,decide_eq_true r.1⟩
 refine h.put k _ hY hw2 ⟨hc,?_,hT,hW,hG,?_,fun y hy=> ?_⟩ hd hi
 ·rw[hR]
  exact(h.b.r.more fun y hy=>(aD.1 hy).elim (fun r=>.inr (hY y r).1) .inl).keep k fun s q=>.inl (aj _ (h.inX s q))
 ·refine aS.2 ⟨?_,aS.2 ⟨?_,aS.2 ⟨far bg rz m6,?_⟩⟩⟩
  ·simp only[aB,not_or];exact⟨m1,m2,far pp mG m4⟩
  ·simp only[aB,not_or];exact⟨m3,far bt mP m5⟩
  ·unfold jF;cases vw'.ownBlock<;>simp
 ·rcases aB.1 hy with q|q
  ·subst q;exact⟨(h.b.lim _ mG).1,aC (h.b.lim _ mG).2 k.size⟩
  rcases aB.1 q with q|q
  ·subst q;exact⟨(h.b.lim _ mP).1,aC (h.b.lim _ mP).2 k.size⟩
  rcases aB.1 q with q|q
  ·subst q;exact⟨(h.b.lim _ rz).1,aC (h.b.lim _ rz).2 k.size⟩
  rcases hw y q with r|r
  ·exact⟨(h.b.lim _ (IC r)).1,aC (h.b.lim _ (IC r)).2 k.size⟩
  ·have:=(E.bel h.s).size;exact⟨om,r.2⟩
theorem PoT.putR (h:PoT E X F pp bt bg vr vw p w) (k:Keep [pp,bt,bg] w w') (hc:jD w' pp (jT pd bt bg vr' vw p'))
 (hT:pW Tryz.prog 40 w' bt (D9 p'.T)) (hG:pW Tryz.prog 3 w' bg (BJ p'.G)) (hR:lG X w' vr' p'.R) (hW:p'.W=p.W) (hd:p'.d=p.d) (hi:mO e p'):mH E X F pp p' w w':=by
 obtain⟨m1,m2,m3,m4,m5,m6⟩:=h.b.ne;have kk:Keep (pws pp bt bg vw) w w':=k.mono fun s q=>by
  simp at q;rcases q with rfl|rfl|rfl
  ·exact mG
  ·exact mP
  ·exact rz
 refine h.put kk [] (fun y q=>by cases q) (fun y q=>.inl q) ⟨hc,hR,hT,?_,hG,h.b.nd,fun y hy=>⟨(h.b.lim y hy).1,aC (h.b.lim y hy).2 k.size⟩⟩ hd hi;rw[hW];exact jE h.b.ow k fun s q r=>by
  simp at q;rcases q with rfl|rfl|rfl
  ·exact m4 r
  ·exact m5 r
  ·exact m6 r
theorem PoT.BK (h:PoT E X F pp bt bg vr vw p w) (hp:EPost E.S X (pws pp bt bg vw++F) d w r en w'):en= .returned r∧∃X',PoT E X' F pp bt bg vr vw (p.atD d) w'∧Keep (off X F) w w'∧(∀x∈X',x∈X∨w.heap.size≤x)∧∀x∈X,x∈X':=by
 obtain⟨h1,X',h2,h3,h4,h5⟩:=hp;refine⟨h1,X',⟨h2,((h.b.atD d).more h4).keep h3 fun s q=>⟨fun r=>(jJ.1 q).2 (av _ r),.inl (h5 s (jJ.1 q).1)⟩,h.f⟩,h3.mono fun s q=>jJ.2 ⟨(jJ.1 q).1,fun r=>(jJ.1 q).2 (aj _ r)⟩,h4,h5⟩
theorem PoX.other (h:PoX E X F pp p w) (k:Keep G w w') (hs: ∀g∈G,g∈F):PoX E X F pp p w':=by
 obtain⟨⟨bt,bg,vr,vw,q⟩,i⟩:=h;exact⟨⟨bt,bg,vr,vw,E.other q.s k fun g t=>aj _ (hs g t),q.b.keep k fun s t=>⟨q.f s (hs s t),.inl (E.qR q.s s (aj _ (hs s t)))⟩,q.f⟩,i⟩
theorem PoX.tQ (h:PoX E X F pp p w) (k:Keep G w w') (hs: ∀g∈G,g∈F) (hY: ∀y∈Y,w.heap.size≤y∧y<w'.heap.size):PoX E (Y++X) (Y++F) pp p w':=by
 obtain⟨⟨bt,bg,vr,vw,q⟩,i⟩:=h;refine⟨⟨bt,bg,vr,vw,E.uI (E.tQ (Y:=Y) q.s k (fun g t=>aj _ (hs g t)) hY) fun g t=> ?_,(q.b.more (Y:=Y++X) fun y t=> ?_).keep k fun s t=>⟨q.f s (hs s t),.inl (aj _ (E.qR q.s s (aj _ (hs s t))))⟩,fun f t r=> ?_⟩,i⟩
 ·rcases aD.1 t with r|r
  ·exact aj _ (av _ r)
  ·rcases aD.1 r with u|u
   ·exact av _ u
   ·exact aj _ (aj _ u)
 ·rcases aD.1 t with r|r
  ·exact .inr (hY y r).1
  ·exact .inl r
 ·rcases aD.1 t with u|u
  ·have:=(hY f u).1;have:=(q.b.lim f r).2;omega
  ·exact q.f f u r
theorem PoX.uI (h:PoX E X F pp p w) (hs: ∀g∈G,g∈F):PoX E X G pp p w:=by
 obtain⟨⟨bt,bg,vr,vw,q⟩,i⟩:=h;refine⟨⟨bt,bg,vr,vw,E.uI q.s fun g t=> ?_,q.b,fun f t=>q.f f (hs f t)⟩,i⟩;rcases aD.1 t with r|r
 ·exact av _ r
 ·exact aj _ (hs g r)
def jZ (E:tu pd pc pz e mn O ev w0) (pp:Nat):FEnv Po w0 where
 S X F p w:=PoX E X F pp p w
 bel h:=h.bel
 lim h:=h.lim
 qR h:=h.qR
 go h k:=h.go k
 other h k hs:=h.other k hs
 tQ h k hs hy:=h.tQ k hs hy
 uI h hg:=h.uI hg
variable {X0 L:List Nat} {W W':World}
theorem PoX.BK (h:PoX E X F pp p w) (hi:mO e (p.atD d)): ∃Z,E.S X Z p.d w∧∀{r en w'},EPost E.S X Z d w r en w'→EPost (jZ E pp).S X F (p.atD d) w r en w':=by
 obtain⟨⟨bt,bg,vr,vw,q⟩,i⟩:=h;refine⟨_,q.s,fun {r en w'} hp=> ?_⟩;obtain⟨h1,X',h2,h3,h4,h5⟩:=q.BK hp;exact⟨h1,X',⟨⟨bt,bg,vr,vw,h2⟩,hi⟩,h3,h4,h5⟩
end
end Go.Proofs.YtehhldljdakgeaaGreatDoor
