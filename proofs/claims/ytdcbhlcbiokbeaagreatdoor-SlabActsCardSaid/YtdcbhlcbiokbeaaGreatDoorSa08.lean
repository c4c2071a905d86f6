/- Lemmas and contracts for the claim's last text: ZPl, ZOps, Code. -/
import Derived.Test.YtdcbhlcbiokbeaaGreatDoorSa01
import Derived.Test.YtdcbhlcbiokbeaaGreatDoorSa02
import Derived.Test.YtdcbhlcbiokbeaaGreatDoorSa03
import Derived.Test.YtdcbhlcbiokbeaaGreatDoorSa04
import Derived.Test.YtdcbhlcbiokbeaaGreatDoorSa05
import Derived.Test.YtdcbhlcbiokbeaaGreatDoorSa07
set_option linter.unusedSimpArgs false
set_option linter.unusedVariables false
set_option maxHeartbeats 16000000
set_option maxRecDepth 100000
namespace Go.Proofs.YtdcbhlcbiokbeaaGreatDoor
section
structure Nd where
 pb:Nat
 bf:Nat
 bt:Nat
 n:Int
 F:List (Int×Int)
 T:List (Int×Int)
def ys (L:List Nd):List Nat:=L.flatMap fun x=>[x.bf,x.bt]
theorem rR (L:List Nd) (x:Nd):ys (L++[x])=ys L++[x.bf,x.bt]:=by simp[ys]
theorem kL {L:List Nd} {y:Nat}:y∈ys L↔∃x∈L,y=x.bf∨y=x.bt:=by simp[ys]
def mayN (mn k:Int) (u:Bool) (x:Nd):Bool:=u||decide (mn≤iD x.F-sz k)
def okN (mn k:Int) (u:Bool) (x:Nd):Bool:=mayN mn k u x&&(iG k x.F).isSome
def sU (mn k:Int) (u:Bool) (L:List Nd) (j:Int):Bool:=match L[j.toNat]? with|some x=>okN mn k u x|none=>false
def og (mn k:Int) (u:Bool) (L:List Nd) (D:List Int):Option Int:=D.find? (sU mn k u L)
def oh (k:Int) (x:Nd):Bool:=x.F.any fun p=>decide (k≤p.2)
def uW (k:Int) (L:List Nd):Nat:=if L.any (oh k) then 7 else 5
def kS (k:Int) (b:Int×Int) (x:Nd):Nd:=⟨x.pb,x.bf,x.bt,x.n,kQ k b x.F,ji b.1 k x.T⟩
def gaveN (a k:Int) (x:Nd):Nd:=⟨x.pb,x.bf,x.bt,x.n,sQ a k x.F,iV a x.T⟩
abbrev Pl:=Int×Int×Int
def gY (mn:Int) (O:List (List Int)) (L:List Nd) (v k:Int) (u:Bool):List Nd×Nat×Pl:=
 if v<0∨(L.length:Int)≤v∨k<0∨6<k then(L,2,(0,0,0)) else
 match og mn k u L (O.getD v.toNat []) with
 |none=>(L,uW k L,(0,0,0))
 |some j=>match L[j.toNat]? with
  |none=>(L,0,(0,0,0))
  |some x=>match iG k x.F with
   |none=>(L,0,(0,0,0))
   |some b=>(L.set j.toNat (kS k b x),0,(j,b.1,k))
def jH (L:List Nd) (v a k:Int):List Nd×Nat:=
 if v<0∨(L.length:Int)≤v then(L,2) else
 match L[v.toNat]? with
 |none=>(L,2)
 |some x=>if jK x.T a=some k then(L.set v.toNat (gaveN a k x),0) else(L,4)
theorem wI {k:Int} {F:List (Int×Int)}:(iG k F).isSome=F.any fun p=>decide (k≤p.2):=by
 cases h:iG k F with
 |none=>
  have:=tH h
  symm
  simp only[Option.isSome_none,fq,decide_eq_true_eq]
  intro x hx;have:=this x hx;omega
 |some b=>
  have:=iR h
  symm
  simp only[fM,dM,decide_eq_true_eq]
  exact⟨b,this.1,this.2⟩
theorem xZ {α:Type} {p:α→Bool} {D:List α} {i:Nat} {y:α} (h: ∀z∈D.take i,p z=false) (hy:D[i]?=some y) (hp:p y=true):D.find? p=some y:=by
 have hl:=(ak.1 hy).1
 have e:D=D.take i++y::D.drop (i+1):=by
  conv=>lhs;rw[←bW i D]
  rw[dD hl,(ak.1 hy).2]
 rw[e,List.find?_append,List.find?_eq_none.2 (fun z hz=>by simp[h z hz])]
 simp[hp]
theorem D8 {α:Type} {p:α→Bool} {D:List α} (h: ∀z∈D,p z=false):D.find? p=none:=List.find?_eq_none.2 fun z hz=>by simp[h z hz]
structure wJ (x y:Nd):Prop where
 pb:y.pb=x.pb
 bf:y.bf=x.bf
 bt:y.bt=x.bt
 n:y.n=x.n
theorem wJ.refl (x:Nd):wJ x x:=⟨rfl,rfl,rfl,rfl⟩
def iE (L M:List Nd):Prop:=L.length=M.length∧∀(i:Nat) (x y:Nd),L[i]?=some x→M[i]?=some y→wJ x y
theorem iE.refl (L:List Nd):iE L L:=⟨rfl,fun i x y h1 h2=>by rw[h1] at h2;obtain rfl:=aI h2;exact wJ.refl _⟩
theorem iE.trans {L M N:List Nd} (h:iE L M) (k:iE M N):iE L N:=⟨h.1.trans k.1,fun i x z hx hz=>by
 have hi:=(ak.1 hx).1
 obtain⟨y,hy⟩: ∃y,M[i]?=some y:=⟨M[i]'(by rw[←h.1];exact hi),au _⟩
 have a:=h.2 i x y hx hy
 have b:=k.2 i y z hy hz
 exact⟨b.pb.trans a.pb,b.bf.trans a.bf,b.bt.trans a.bt,b.n.trans a.n⟩⟩
theorem iE.set {L:List Nd} {i:Nat} {x y:Nd} (hx:L[i]?=some x) (h:wJ x y):iE L (L.set i y):=⟨sI,fun j a b ha hb=>by
 by_cases e:i=j
 ·subst e
  rw[hx] at ha;obtain rfl:=aI ha
  rw[bD (ak.1 hx).1] at hb
  obtain rfl:=aI hb
  exact h
 ·rw[d9 e] at hb
  rw[ha] at hb;obtain rfl:=aI hb
  exact wJ.refl _⟩
theorem iE.cons {x y:Nd} {L M:List Nd} (h:iE (x::L) (y::M)):wJ x y∧iE L M:=
 ⟨h.2 0 x y rfl rfl,by have:=h.1;simpa using this,fun i a b ha hb=>h.2 (i+1) a b (by simpa using ha) (by simpa using hb)⟩
theorem iE.map {α:Type} (f:Nd→α) (hf: ∀x y,wJ x y→f y=f x): ∀{L M:List Nd},iE L M→M.map f=L.map f
 |[],[],_=>rfl
 |[],y::M,h=>by have:=h.1;simp at this
 |x::L,[],h=>by have:=h.1;simp at this
 |x::L,y::M,h=>by
  obtain⟨h1,h2⟩:=h.cons
  simp[hf x y h1,iE.map f hf h2]
theorem ys_eq (L:List Nd):ys L=(L.map fun x=>[x.bf,x.bt]).flatten:=by simp[ys,List.flatMap]
theorem iE.ys {L M:List Nd} (h:iE L M):ys M=ys L:=by
 rw[ys_eq,ys_eq,h.map (fun x=>[x.bf,x.bt]) fun x y q=>by simp[q.bf,q.bt]]
theorem je (mn:Int) (O:List (List Int)) (L:List Nd) (v k:Int) (u:Bool):iE L (gY mn O L v k u).1:=by
 unfold gY
 split
 ·exact iE.refl _
 split
 ·exact iE.refl _
 split
 ·exact iE.refl _
 rename_i x hx
 split
 ·exact iE.refl _
 ·exact iE.set hx ⟨rfl,rfl,rfl,rfl⟩
theorem pE (L:List Nd) (v a k:Int):iE L (jH L v a k).1:=by
 unfold jH
 split
 ·exact iE.refl _
 split
 ·exact iE.refl _
 rename_i x hx
 split
 ·exact iE.set hx ⟨rfl,rfl,rfl,rfl⟩
 ·exact iE.refl _
def vM (O:List (List Int)) (n:Nat):Prop:=O.length=n∧∀D∈O,D.length=n∧∀x:Int,x∈D↔0≤x∧x<n
theorem vM.get {O:List (List Int)} {n:Nat} (h:vM O n) {i:Nat} (hi:i<n): ∃D,O[i]?=some D∧D.length=n∧∀x:Int,x∈D↔0≤x∧x<n:=by
 have hl:i<O.length:=by rw[h.1];exact hi
 exact⟨O[i],au hl,h.2 _ (List.getElem_mem hl)⟩
theorem D9 {mn k:Int} {u:Bool} {L:List Nd} {j:Int} (h:sU mn k u L j=true): ∃x b,L[j.toNat]?=some x∧okN mn k u x=true∧iG k x.F=some b:=by
 unfold sU at h
 split at h
 ·rename_i x hx
  have h':=h
  unfold okN at h'
  simp only[bq] at h'
  obtain⟨b,hb⟩:=Option.isSome_iff_exists.1 h'.2
  exact⟨x,b,hx,h,hb⟩
 ·cases h
theorem AA {mn k:Int} {u:Bool} {L:List Nd} {D:List Int} {j:Int} (h:og mn k u L D=some j):j∈D∧sU mn k u L j=true:=
 ⟨List.mem_of_find?_eq_some h,List.find?_some h⟩
theorem oq {mn:Int} {O:List (List Int)} {L:List Nd} {v k:Int} {u:Bool} (h:v<0∨(L.length:Int)≤v∨k<0∨6<k):gY mn O L v k u=(L,2,(0,0,0)):=by
 unfold gY;rw[if_pos h]
theorem uX {mn:Int} {O:List (List Int)} {L:List Nd} {v k:Int} {u:Bool} (h: ¬(v<0∨(L.length:Int)≤v∨k<0∨6<k)) {D:List Int} (hD:O[v.toNat]?=some D) (hp:og mn k u L D=none):gY mn O L v k u=(L,uW k L,(0,0,0)):=by
 unfold gY;rw[if_neg h,dx,hD,fE,hp]
theorem rU {mn:Int} {O:List (List Int)} {L:List Nd} {v k:Int} {u:Bool} (h: ¬(v<0∨(L.length:Int)≤v∨k<0∨6<k)) {D:List Int} (hD:O[v.toNat]?=some D) {j:Int} (hp:og mn k u L D=some j) {x:Nd} {b:Int×Int} (hx:L[j.toNat]?=some x) (hb:iG k x.F=some b):
 gY mn O L v k u=(L.set j.toNat (kS k b x),0,(j,b.1,k)):=by
 unfold gY;rw[if_neg h,dx,hD,fE,hp]
 simp only[hx,hb]
theorem nR {mn:Int} {O:List (List Int)} {L:List Nd} {v k:Int} {u:Bool} (hO:vM O L.length) (h: ¬(v<0∨(L.length:Int)≤v∨k<0∨6<k)):
 ∃D,O[v.toNat]?=some D∧D.length=L.length∧(∀x:Int,x∈D↔0≤x∧x<L.length)∧
  ((og mn k u L D=none∧gY mn O L v k u=(L,uW k L,(0,0,0)))∨
   ∃j x b,og mn k u L D=some j∧0≤j∧j<L.length∧L[j.toNat]?=some x∧okN mn k u x=true∧iG k x.F=some b∧gY mn O L v k u=(L.set j.toNat (kS k b x),0,(j,b.1,k))):=by
 obtain⟨D,hD,hl,hm⟩:=hO.get (i:=v.toNat) om
 refine⟨D,hD,hl,hm,?_⟩
 cases hp:og mn k u L D with
 |none=>exact .inl ⟨rfl,uX h hD hp⟩
 |some j=>
  obtain⟨h1,h2⟩:=AA hp
  obtain⟨x,b,hx,hk,hb⟩:=D9 h2
  have:=(hm j).1 h1
  exact .inr ⟨j,x,b,rfl,this.1,this.2,hx,hk,hb,rU h hD hp hx hb⟩
theorem zL (k:Int) (L:List Nd):uW k L=7∨uW k L=5:=by unfold uW;split<;>simp
end
section
structure Sl where
 nd:Int
 pg:Int
 T:List Bool
def iI (T:List Bool):Nat:=T.countP id
def gF (s:Sl):Nat:=iI s.T
theorem iZ (T:List Bool):iI T≤T.length:=List.countP_le_length
theorem lM (T:List Bool) {k:Nat} {b:Bool} (h:T[k]?=some b):iI T=iI (T.take k)+(if b then 1 else 0)+iI (T.drop (k+1)):=by
 have hl:=(ak.1 h).1
 have hv:=(ak.1 h).2
 conv=>lhs;rw[←bW k T,dD hl,hv]
 unfold iI
 rw[List.countP_append,List.countP_cons]
 cases b<;>simp<;>omega
theorem mU {T:List Bool} {k:Nat} {b:Bool} (h:T[k]?=some b) (c:Bool):iI (T.set k c)+(if b then 1 else 0)=iI T+if c then 1 else 0:=by
 have hl:=(ak.1 h).1
 rw[lM T h]
 have e:(T.set k c)[k]?=some c:=bD hl
 rw[lM _ e]
 have e1:(T.set k c).take k=T.take k:=by
  rw[List.take_set_of_le (aH _)]
 have e2:(T.set k c).drop (k+1)=T.drop (k+1):=by
  rw[List.drop_set_of_lt om]
 rw[e1,e2]
 omega
theorem Da {T:List Bool} {k:Nat} (h:T[k]?=some true):0<iI T:=by
 have:=lM T h
 simp at this;omega
def gU (T:List Bool):Nat:=T.findIdx fun b=> !b
theorem iL {T:List Bool} (h:iI T<T.length):gU T<T.length∧T[gU T]?=some false∧∀j,j<gU T→T[j]?=some true:=by
 have hx: ∃b∈T,(!b)=true:=by
  apply Classical.byContradiction
  intro hn
  have:iI T=T.length:=by
   unfold iI
   rw[List.countP_eq_length]
   intro b hb
   cases b with
   |true=>rfl
   |false=>exact(hn ⟨false,hb,rfl⟩).elim
  omega
 have hl:gU T<T.length:=List.findIdx_lt_length_of_exists hx
 refine⟨hl,?_,fun j hj=> ?_⟩
 ·rw[au hl]
  have:=List.findIdx_getElem (p:=fun b:Bool=> !b) (xs:=T) (w:=hl)
  have e:(!T[gU T])=true:=this
  have e2:T[gU T]=false:=by simpa using e
  rw[e2]
 ·have hjl:j<T.length:=by omega
  rw[au hjl]
  have:=List.not_of_lt_findIdx (p:=fun b:Bool=> !b) (xs:=T) hj
  simpa using this
theorem y7 {T:List Bool} {k:Nat} (hk:T[k]?=some false) (h: ∀j,j<k→T[j]?=some true):gU T=k:=by
 have hm:iI T<T.length:=by
  have h1:=lM T hk
  have h2:=iZ (T.take k)
  have h3:=iZ (T.drop (k+1))
  have hl:=(ak.1 hk).1
  simp at h1 h2 h3
  omega
 obtain⟨h1,h2,h3⟩:=iL hm
 rcases Nat.lt_trichotomy (gU T) k with q|q|q
 ·rw[h _ q] at h2;cases h2
 ·exact q
 ·rw[h3 _ q] at hk;cases hk
def rV (C:List Sl) (m:Nat):Nat:=match C[m]? with|some z=>gF z|none=>0
theorem ou {C:List Sl} {m:Nat} {s:Sl} (h:C[m]?=some s):rV C m=gF s:=by unfold rV;rw[h]
def iW (v:Int) (C:List Sl):Nat→Option Nat
 |0=>none
 |i+1=>match C[i]? with
  |none=>iW v C i
  |some s=>if s.nd=v∧gF s<s.T.length then match iW v C i with
   |none=>some i
   |some m=>if rV C m<gF s then some i else some m
   else iW v C i
theorem iU {v:Int} {C:List Sl}: ∀{i m:Nat},iW v C i=some m→m<i∧∃s,C[m]?=some s∧s.nd=v∧gF s<s.T.length
 |0,m,h=>by cases h
 |i+1,m,h=>by
  unfold iW at h
  split at h
  ·have:=iU h;exact⟨om,this.2⟩
  rename_i s hs
  split at h
  ·rename_i hc
   split at h
   ·obtain rfl:=aI h;exact⟨om,s,hs,hc⟩
   ·rename_i m' hm'
    split at h
    ·obtain rfl:=aI h;exact⟨om,s,hs,hc⟩
    ·obtain rfl:=aI h;have:=iU hm';exact⟨om,this.2⟩
  ·have:=iU h;exact⟨om,this.2⟩
theorem pG {v:Int} {C:List Sl}: ∀{i:Nat},iW v C i=none→∀j s,j<i→C[j]?=some s→s.nd=v→s.T.length≤gF s
 |0,h=>fun j s hj=>om
 |i+1,h=>by
  unfold iW at h
  intro j s hj hs hv
  split at h
  ·rename_i hn
   by_cases e:j=i
   ·subst e;rw[hs] at hn;cases hn
   ·exact pG h j s om hs hv
  rename_i z hz
  split at h
  ·split at h
   ·cases h
   ·split at h<;>cases h
  ·rename_i hc
   by_cases e:j=i
   ·subst e;rw[hs] at hz;obtain rfl:=aI hz
    have:=fun q=>hc ⟨hv,q⟩;omega
   ·exact pG h j s om hs hv
def ltP (s:Sl) (j a:Int):Prop:=s.nd<j∨s.nd=j∧s.pg<a
instance (s:Sl) (j a:Int):Decidable (ltP s j a):=by unfold ltP;infer_instance
def ltS (s t:Sl):Prop:=ltP s t.nd t.pg
def mh (j a:Int) (C:List Sl):Nat:=C.findIdx fun s=> !decide (ltP s j a)
theorem pI (j a:Int) (C:List Sl):mh j a C≤C.length:=List.findIdx_le_length
theorem y8 {j a:Int} {C:List Sl} {i:Nat} {s:Sl} (hi:i<mh j a C) (hs:C[i]?=some s):ltP s j a:=by
 have:=List.not_of_lt_findIdx (p:=fun s=> !decide (ltP s j a)) (xs:=C) hi
 have e:=(ak.1 hs).2
 simp[e] at this
 exact this
theorem Db {j a:Int} {C:List Sl} {s:Sl} (hs:C[mh j a C]?=some s): ¬ltP s j a:=by
 have hl:=(ak.1 hs).1
 have:=List.findIdx_getElem (p:=fun s=> !decide (ltP s j a)) (xs:=C) (w:=hl)
 have e:=(ak.1 hs).2
 have t2:(!decide (ltP C[mh j a C] j a))=true:=this
 rw[e] at t2
 simpa using t2
theorem Dc {s t u:Sl} (h:ltS s t) (k:ltS t u):ltS s u:=by unfold ltS ltP at*;omega
theorem Df {j a:Int} {C:List Sl} (hp:C.Pairwise ltS) {i:Nat} {s:Sl} (hi:mh j a C≤i) (hs:C[i]?=some s): ¬ltP s j a:=by
 have hl:=(ak.1 hs).1
 obtain⟨t,ht⟩: ∃t,C[mh j a C]?=some t:=⟨C[mh j a C]' om,au _⟩
 have h0:=Db ht
 by_cases e:mh j a C=i
 ·rw[e] at ht;rw[hs] at ht;obtain rfl:=aI ht;exact h0
 ·have:=cK.1 hp (mh j a C) i om hl om
  rw[(ak.1 ht).2,(ak.1 hs).2] at this
  unfold ltS ltP at*;omega
def mV (C:List Sl) (s:Sl):List Sl:=C.take (mh s.nd s.pg C)++s::C.drop (mh s.nd s.pg C)
def gP (e:Nat):Nat:=64 / e
def gM (e:Nat):List Bool:=List.replicate (gP e) false
theorem mW {e:Nat} (h1:1≤e) (h2:e≤64):0<gP e:=Nat.div_pos h2 h1
theorem ny (e:Nat):iI (gM e)=0:=by unfold iI gM;simp[List.countP_replicate]
theorem rW {e:Nat} (h1:1≤e) (h2:e≤64):gU (gM e)=0:=y7 (by have:=mW h1 h2;unfold gM;simp[List.getElem?_replicate];omega) (fun j hj=>om)
abbrev Ob:=Int×Int
def oQ (e:Nat) (s:Sl) (k:Nat):Ob:=(s.nd,s.pg*64+k*e)
def jc (s:Sl) (k:Nat) (b:Bool):Sl:=⟨s.nd,s.pg,s.T.set k b⟩
structure Ca where
 L:List Nd
 C:List Sl
def takeC (mn:Int) (O:List (List Int)) (e:Nat) (c:Ca) (v:Int) (u:Bool):Ca×Nat×Ob:=
 if v<0∨(c.L.length:Int)≤v then(c,2,(0,0)) else
 match iW v c.C c.C.length with
 |some i=>match c.C[i]? with
  |none=>(c,2,(0,0))
  |some s=>(⟨c.L,c.C.set i (jc s (gU s.T) true)⟩,0,oQ e s (gU s.T))
 |none=>if (gY mn O c.L v 0 u).2.1=0 then
   (⟨(gY mn O c.L v 0 u).1,mV c.C (jc ⟨(gY mn O c.L v 0 u).2.2.1,(gY mn O c.L v 0 u).2.2.2.1,gM e⟩ 0 true)⟩,0,((gY mn O c.L v 0 u).2.2.1,(gY mn O c.L v 0 u).2.2.2.1*64))
  else(⟨(gY mn O c.L v 0 u).1,c.C⟩,(gY mn O c.L v 0 u).2.1,(0,0))
def rY (e:Nat) (o:Ob) (s:Sl):Bool:=decide (s.nd=o.1)&&decide (0≤o.2-s.pg*64)&&decide ((o.2-s.pg*64) % e=0)&&(s.T[((o.2-s.pg*64) / e).toNat]?==some true)
def kOf (e:Nat) (o:Ob) (s:Sl):Nat:=((o.2-s.pg*64) / e).toNat
theorem uY {e:Nat} (e1:1≤e) {o:Ob} {s:Sl}:rY e o s=true↔s.T[kOf e o s]?=some true∧o=oQ e s (kOf e o s):=by
 unfold rY kOf oQ
 simp only[bq,decide_eq_true_eq,beq_iff_eq]
 constructor
 ·rintro⟨⟨⟨h1,h2⟩,h3⟩,h4⟩
  refine⟨h4,Prod.ext h1.symm ?_⟩
  have hq:0≤(o.2-s.pg*64) / (e:Int):=Int.ediv_nonneg h2 om
  have:=Int.mul_ediv_add_emod (o.2-s.pg*64) e
  show o.2=s.pg*64+(((o.2-s.pg*64) / (e:Int)).toNat:Int)*e
  rw[Int.toNat_of_nonneg hq,Int.mul_comm ((o.2-s.pg*64) / (e:Int)) e]
  omega
 ·rintro⟨h4,h⟩
  have h1:o.1=s.nd:=congrArg Prod.fst h
  have h2:o.2=s.pg*64+(((o.2-s.pg*64) / e).toNat:Int)*e:=congrArg Prod.snd h
  obtain⟨q,hq⟩: ∃q:Nat,q=((o.2-s.pg*64) / e).toNat:=⟨_,rfl⟩
  rw[←hq] at h2 h4 ⊢
  have h3:o.2-s.pg*64=(q:Int)*e:=om
  have h5:0≤(q:Int)*e:=dW om om
  refine⟨⟨⟨h1.symm,om⟩,?_⟩,h4⟩
  rw[h3,Int.mul_emod_left]
theorem kOf_uniq {e:Nat} (e1:1≤e) {o:Ob} {s:Sl} {k:Nat} (h:o=oQ e s k):kOf e o s=k:=by
 unfold kOf
 have h2:o.2=s.pg*64+(k:Int)*e:=congrArg Prod.snd h
 rw[show o.2-s.pg*64=(k:Int)*e by omega,Int.mul_ediv_cancel _ om]
 omega
def sV (e:Nat) (o:Ob) (C:List Sl):Option Nat:=C.findIdx? (rY e o)
theorem pJ {e:Nat} {o:Ob} {C:List Sl} {i:Nat} (h:sV e o C=some i): ∃s,C[i]?=some s∧rY e o s=true∧∀j z,j<i→C[j]?=some z→rY e o z=false:=by
 obtain⟨hl,h1,h2⟩:=List.findIdx?_eq_some_iff_getElem.1 h
 refine⟨C[i],au hl,h1,fun j z hj hz=> ?_⟩
 have:=h2 j hj
 rw[(ak.1 hz).2] at this
 simpa using this
theorem AJ {e:Nat} {o:Ob} {C:List Sl} (h:sV e o C=none): ∀s∈C,rY e o s=false:=by
 have:=List.findIdx?_eq_none_iff.1 h
 exact this
theorem findS_at {e:Nat} {o:Ob} {C:List Sl} {i:Nat} {s:Sl} (hs:C[i]?=some s) (hh:rY e o s=true) (h: ∀j z,j<i→C[j]?=some z→rY e o z=false):sV e o C=some i:=by
 have hl:=(ak.1 hs).1
 refine List.findIdx?_eq_some_iff_getElem.2 ⟨hl,by rw[(ak.1 hs).2];exact hh,fun j hj=> ?_⟩
 have:=h j _ hj (au om)
 simpa using this
theorem findS_no {e:Nat} {o:Ob} {C:List Sl} (h: ∀s∈C,rY e o s=false):sV e o C=none:=List.findIdx?_eq_none_iff.2 h
def jB (e:Nat) (c:Ca) (o:Ob):Ca×Nat:=match sV e o c.C with
 |none=>(c,9)
 |some i=>match c.C[i]? with
  |none=>(c,9)
  |some s=>(⟨c.L,c.C.set i (jc s (kOf e o s) false)⟩,0)
def goS (v:Int) (s:Sl):Bool:=decide (s.nd=v)&&decide (gF s=0)
def ig (v most:Int):Nat→Ca×Nat→Ca×Nat
 |0,r=>r
 |i+1,(c,n)=>match c.C[i]? with
  |none=>ig v most i (c,n)
  |some s=>if (n:Int)<most∧goS v s=true then ig v most i (⟨(jH c.L s.nd s.pg 0).1,c.C.eraseIdx i⟩,n+1) else ig v most i (c,n)
theorem mY {v most:Int}: ∀{i:Nat} {c:Ca} {n:Nat},most≤n→ig v most i (c,n)=(c,n)
 |0,c,n,h=>rfl
 |i+1,c,n,h=>by
  unfold ig
  split
  ·exact mY h
  ·rw[if_neg om];exact mY h
def jm (C:List Sl):List Pl:=C.map fun s=>(s.nd,s.pg,0)
def jN (C:List Sl):Nat:=(C.map gF).sum
def oz (C:List Sl):Nat:=(C.map fun s=>s.T.length).sum
def obsS (e:Nat) (s:Sl):List Ob:=(List.range s.T.length).filterMap fun k=>if s.T[k]?=some true then some (oQ e s k) else none
def oU (e:Nat) (C:List Sl):List Ob:=C.flatMap (obsS e)
end
section
theorem AL {n:Int} {F T:List (Int×Int)} (h:Inv n F T) {a k:Int} (hg:jK T a=some k):0≤a∧a<256:=by
 have:=h.rngT (j5 hg);exact⟨this.1,this.2.1⟩
def kM (L:List Nd) (s:Sl):Prop:=0≤s.nd∧∃x,L[s.nd.toNat]?=some x∧jK x.T s.pg=some 0
structure jD (e:Nat) (c:Ca):Prop where
 e1:1≤e
 e2:e≤64
 zi: ∀x∈c.L,Inv x.n x.F x.T
 zl:c.L.length≤4
 srt:c.C.Pairwise ltS
 len: ∀s∈c.C,s.T.length=gP e
 tk: ∀s∈c.C,kM c.L s
theorem kM.rng {L:List Nd} {s:Sl} (h:kM L s) (hI: ∀x∈L,Inv x.n x.F x.T):0≤s.nd∧s.nd<L.length∧0≤s.pg∧s.pg<256:=by
 obtain⟨h0,x,hx,hg⟩:=h
 have hl:=(ak.1 hx).1
 have:=AL (hI x (aA hx)) hg
 exact⟨h0,om,this.1,this.2⟩
theorem u6: ∀(n:Nat) (l:List Int),l.Pairwise (· < ·)→(∀x∈l,0≤x∧x<n)→l.length≤n
 |n,[],_,_=>sI
 |n,x::r,hp,h=>by
  obtain⟨p1,p2⟩:=aY.1 hp
  obtain⟨m,rfl⟩: ∃m,n=m+1:=⟨n-1,by have:=h x sI;omega⟩
  have:=u6 m (r.map fun y=>y-1) (by
   rw[List.pairwise_map];exact p2.imp fun q=>om) (fun y hy=>by
   obtain⟨z,hz,rfl⟩:=bZ.1 hy
   have a:=p1 z hz
   have b:=h z (aj _ hz)
   have c:=h x sI
   omega)
  simp at this ⊢;omega
theorem jD.rng {e:Nat} {c:Ca} (h:jD e c) {s:Sl} (hs:s∈c.C):0≤s.nd∧s.nd<4∧0≤s.pg∧s.pg<256:=by
 have:=(h.tk s hs).rng h.zi
 have:=h.zl
 omega
theorem Dg {C:List Sl} (hp:C.Pairwise ltS) (hr: ∀s∈C,0≤s.nd∧s.nd<4∧0≤s.pg∧s.pg<256):C.length≤1024:=by
 have:=u6 1024 (C.map fun s=>s.nd*256+s.pg) (by
  rw[List.pairwise_map]
  refine hp.imp_of_mem fun {a b} ha hb q=> ?_
  have:=hr a ha;have:=hr b hb
  unfold ltS ltP at q;omega) (fun x hx=>by
  obtain⟨s,hs,rfl⟩:=bZ.1 hx
  have:=hr s hs;omega)
 simpa using this
theorem jD.few {e:Nat} {c:Ca} (h:jD e c):c.C.length≤1024:=Dg h.srt fun s hs=>h.rng hs
theorem jD.get {e:Nat} {c:Ca} (h:jD e c) {i:Nat} {s:Sl} (hs:c.C[i]?=some s):s∈c.C:=aA hs
theorem jD.use {e:Nat} {c:Ca} (h:jD e c) {i:Nat} {s:Sl} (hs:c.C[i]?=some s) (k:Nat) (b:Bool):jD e ⟨c.L,c.C.set i (jc s k b)⟩:=by
 have hm:=aA hs
 have hl:=(ak.1 hs).1
 have hv:=(ak.1 hs).2
 refine⟨h.e1,h.e2,h.zi,h.zl,?_,fun z hz=> ?_,fun z hz=> ?_⟩
 ·rw[cK]
  intro a d ha hd hlt
  simp at ha hd
  have hp:=cK.1 h.srt a d ha hd hlt
  simp only[List.getElem_set]
  by_cases e1:i=a
  ·subst e1
   have:i≠d:=om
   rw[if_pos rfl,if_neg this]
   rw[hv] at hp;exact hp
  ·rw[if_neg e1]
   by_cases e2:i=d
   ·subst e2
    rw[if_pos rfl]
    rw[hv] at hp;exact hp
   ·rw[if_neg e2];exact hp
 ·rcases bS hz with q|q
  ·exact h.len z q
  ·subst q;simp[jc];exact h.len s hm
 ·rcases bS hz with q|q
  ·exact h.tk z q
  ·subst q;exact h.tk s hm
theorem uZ {C:List Sl} {s z:Sl}:z∈mV C s↔z=s∨z∈C:=by
 unfold mV
 rw[aF,aC]
 constructor
 ·rintro(h|h|h)
  ·exact .inr (dh h)
  ·exact .inl h
  ·exact .inr (dJ h)
 ·rintro(h|h)
  ·exact .inr (.inl h)
  ·rw[←bW (mh s.nd s.pg C) C,aF] at h
   rcases h with h|h
   ·exact .inl h
   ·exact .inr (.inr h)
theorem y9 (C:List Sl) (s:Sl):(mV C s).length=C.length+1:=by
 have:=pI s.nd s.pg C
 unfold mV;simp;omega
theorem yc {C:List Sl} {s:Sl} (hp:C.Pairwise ltS) (hn: ∀z∈C,¬(z.nd=s.nd∧z.pg=s.pg)):(mV C s).Pairwise ltS:=by
 unfold mV
 have hall: ∀a∈C.take (mh s.nd s.pg C),ltS a s:=fun a ha=>by
  obtain⟨i,hi⟩:=bV ha
  have hl:=(ak.1 hi).1
  rw[aU] at hl
  rw[bO om] at hi
  exact y8 om hi
 have hge: ∀a∈C.drop (mh s.nd s.pg C),ltS s a:=fun a ha=>by
  obtain⟨i,hi⟩:=bV ha
  rw[bM] at hi
  have h1:=Df (j:=s.nd) (a:=s.pg) hp (i:=mh s.nd s.pg C+i) om hi
  have h2:=hn a (aA hi)
  unfold ltS ltP at*;omega
 refine dI.2 ⟨hp.sublist (List.take_sublist _ _),aY.2 ⟨hge,hp.sublist (List.drop_sublist _ _)⟩,fun a ha b hb=> ?_⟩
 rcases aC.1 hb with rfl|hb
 ·exact hall a ha
 ·exact Dc (hall a ha) (hge b hb)
theorem kM.set {L:List Nd} {s:Sl} (h:kM L s) {j:Nat} {x y:Nd} (hx:L[j]?=some x) (hy:s.nd=j→jK x.T s.pg=some 0→jK y.T s.pg=some 0):kM (L.set j y) s:=by
 obtain⟨h0,z,hz,hg⟩:=h
 refine⟨h0,?_⟩
 by_cases e:j=s.nd.toNat
 ·subst e
  rw[hx] at hz;obtain rfl:=aI hz
  exact⟨y,bD (ak.1 hx).1,hy om hg⟩
 ·exact⟨z,by rw[d9 e];exact hz,hg⟩
theorem u7 {n:Int} {F T:List (Int×Int)} (h:Inv n F T) {b:Int×Int} (hb:b∈F):jK T b.1=none:=by
 cases hg:jK T b.1 with
 |none=>rfl
 |some k=>exact((h.hand hb).other (aB _ (j5 hg)) rfl).elim
theorem ug {mn:Int} {O:List (List Int)} {L:List Nd} {v:Int} {u:Bool} (hO:vM O L.length) (hI: ∀x∈L,Inv x.n x.F x.T) (h: ¬(v<0∨(L.length:Int)≤v)):
 (∃k,(k=7∨k=5)∧gY mn O L v 0 u=(L,k,(0,0,0)))∨
 ∃(j:Nat) (x:Nd) (b:Int×Int),L[j]?=some x∧iG 0 x.F=some b∧jK x.T b.1=none∧0≤b.1∧b.1<256∧gY mn O L v 0 u=(L.set j (kS 0 b x),0,((j:Int),b.1,0)):=by
 obtain⟨D,hD,hl,hm,hc⟩:=nR (mn:=mn) (u:=u) (k:=0) hO (by omega: ¬(v<0∨(L.length:Int)≤v∨(0:Int)<0∨(6:Int)<0))
 rcases hc with⟨hp,e⟩|⟨j,x,b,hp,j0,j1,hx,hk,hb,e⟩
 ·exact .inl ⟨uW 0 L,zL 0 L,e⟩
 ·refine .inr ⟨j.toNat,x,b,hx,hb,?_,?_,?_,?_⟩
  ·exact u7 (hI x (aA hx)) (iR hb).1
  ·exact((hI x (aA hx)).BG (iR hb).1).1
  ·exact((hI x (aA hx)).BG (iR hb).1).2.1
  ·rw[e,Int.toNat_of_nonneg j0]
theorem wK {x:Nd} (h:Inv x.n x.F x.T) {k:Int} (k0:0≤k) {b:Int×Int} (hb:iG k x.F=some b):Inv (kS k b x).n (kS k b x).F (kS k b x).T:=h.take k0 hb
theorem Dh {L:List Nd} (h: ∀x∈L,Inv x.n x.F x.T) {j:Nat} {y:Nd} (hy:Inv y.n y.F y.T): ∀x∈L.set j y,Inv x.n x.F x.T:=fun x hx=>by
 rcases bS hx with q|q
 ·exact h x q
 ·subst q;exact hy
theorem kM.took {L:List Nd} {s:Sl} (h:kM L s) {j:Nat} {x:Nd} (hx:L[j]?=some x) {b:Int×Int} (hi:Inv x.n x.F x.T) (hb:jK x.T b.1=none):kM (L.set j (kS 0 b x)) s:=
 h.set hx fun _ hg=>by
  show jK (ji b.1 0 x.T) s.pg=some 0
  rw[qB _ _ _ hi.ta]
  split
  ·rfl
  ·exact hg
theorem oC {mn:Int} {O:List (List Int)} {e:Nat} {c:Ca} {v:Int} {u:Bool} (hO:vM O c.L.length) (h:jD e c):jD e (takeC mn O e c v u).1:=by
 unfold takeC
 by_cases hv:v<0∨(c.L.length:Int)≤v
 ·rw[if_pos hv];exact h
 rw[if_neg hv]
 cases hb:iW v c.C c.C.length with
 |some i=>
  obtain⟨_,s,hs,_⟩:=iU hb
  simp only[hs]
  exact h.use hs _ _
 |none=>
  simp only
  rcases ug (mn:=mn) (u:=u) hO h.zi hv with⟨k,hk,e⟩|⟨j,x,b,hx,hbb,hf,b0,b1,e⟩
  ·rw[e]
   have: ¬(k=0):=by rcases hk with q|q<;>omega
   simp only[this,if_false]
   exact h
  ·rw[e]
   simp only[if_true]
   have hix:=h.zi x (aA hx)
   have hjl:=(ak.1 hx).1
   refine⟨h.e1,h.e2,Dh h.zi (wK hix om hbb),by simpa using h.zl,?_,fun z hz=> ?_,fun z hz=> ?_⟩
   ·refine yc h.srt fun z hz q=> ?_
    obtain⟨q1,q2⟩:=q
    obtain⟨_,y,hy,hg⟩:=h.tk z hz
    simp only[jc] at q1 q2
    rw[q1,bC,hx] at hy
    obtain rfl:=aI hy
    rw[q2,hf] at hg;cases hg
   ·rcases uZ.1 hz with rfl|q
    ·simp[jc,gM]
    ·exact h.len z q
   ·rcases uZ.1 hz with rfl|q
    ·refine⟨by simp[jc],kS 0 b x,?_,?_⟩
     ·simp only[jc,bC]
      exact bD hjl
     ·show jK (ji b.1 0 x.T) b.1=some 0
      rw[qB _ _ _ hix.ta,if_pos rfl]
    ·exact(h.tk z q).took hx hix hf
theorem Di {e:Nat} {c:Ca} {o:Ob} (h:jD e c):jD e (jB e c o).1:=by
 unfold jB
 split
 ·exact h
 ·split
  ·exact h
  ·rename_i hs;exact h.use hs _ _
theorem kM.gave {L:List Nd} {s t:Sl} (h:kM L s) (ht:kM L t) (hne: ¬(s.nd=t.nd∧s.pg=t.pg)):kM (jH L t.nd t.pg 0).1 s:=by
 obtain⟨t0,x,hx,hg⟩:=ht
 have hl:=(ak.1 hx).1
 unfold jH
 rw[if_neg om]
 simp only[hx,hg,if_true]
 refine h.set hx fun e hs=> ?_
 show jK (iV t.pg x.T) s.pg=some 0
 rw[getL_del,if_neg (fun q=>hne ⟨om,q.symm⟩)]
 exact hs
theorem Dj {L:List Nd} (h: ∀x∈L,Inv x.n x.F x.T) (v a k:Int): ∀x∈(jH L v a k).1,Inv x.n x.F x.T:=by
 unfold jH
 split
 ·exact h
 split
 ·exact h
 rename_i x hx
 split
 ·rename_i hg
  exact Dh h ((h x (aA hx)).give (j5 hg))
 ·exact h
theorem wL (L:List Nd) (v a k:Int):(jH L v a k).1.length=L.length:=(pE L v a k).1.symm
theorem jD.gone {e:Nat} {c:Ca} (h:jD e c) {i:Nat} {s:Sl} (hs:c.C[i]?=some s):jD e ⟨(jH c.L s.nd s.pg 0).1,c.C.eraseIdx i⟩:=by
 have hl:=(ak.1 hs).1
 have hv:=(ak.1 hs).2
 have hsub:(c.C.eraseIdx i).Sublist c.C:=fV ..
 refine⟨h.e1,h.e2,Dj h.zi _ _ _,by rw[wL];exact h.zl,h.srt.sublist hsub,fun z hz=>h.len z (hsub.subset hz),fun z hz=> ?_⟩
 refine(h.tk z (hsub.subset hz)).gave (h.tk s (aA hs)) fun q=> ?_
 have hp:=h.srt
 rw[←bW i c.C,dD hl,hv] at hp
 obtain⟨_,p2,p3⟩:=dI.1 hp
 rw[dz,aF] at hz
 rcases hz with hz|hz
 ·have:=p3 z hz s sI
  unfold ltS ltP at this;omega
 ·have:=(aY.1 p2).1 z hz
  unfold ltS ltP at this;omega
theorem lN {e:Nat} {v most:Int}: ∀{i:Nat} {c:Ca} {n:Nat},jD e c→jD e (ig v most i (c,n)).1
 |0,c,n,h=>h
 |i+1,c,n,h=>by
  unfold ig
  split
  ·exact lN h
  ·rename_i s hs
   split
   ·exact lN (h.gone hs)
   ·exact lN h
theorem nC (mn:Int) (O:List (List Int)) (e:Nat) (c:Ca) (v:Int) (u:Bool):iE c.L (takeC mn O e c v u).1.L:=by
 unfold takeC
 split
 ·exact iE.refl _
 split
 ·split<;>exact iE.refl _
 ·split<;>exact je ..
theorem pK (e:Nat) (c:Ca) (o:Ob):(jB e c o).1.L=c.L:=by
 unfold jB
 split
 ·rfl
 ·split<;>rfl
theorem jI {v most:Int}: ∀{i:Nat} {c:Ca} {n:Nat},iE c.L (ig v most i (c,n)).1.L
 |0,c,n=>iE.refl _
 |i+1,c,n=>by
  unfold ig
  split
  ·exact jI
  ·rename_i s _
   split
   ·exact(pE c.L s.nd s.pg 0).trans (jI (c:=⟨(jH c.L s.nd s.pg 0).1,c.C.eraseIdx i⟩))
   ·exact jI
end
section
open Go.RowKit Go.Maps
def ptrs (L:List Nd):List Value:=L.map fun x=>.pointer (some ⟨x.pb,0,none⟩)
theorem lQ (L:List Nd):(ptrs L).length=L.length:=by simp[ptrs]
theorem vg {L:List Nd} {j:Nat} {x:Nd} (h:L[j]?=some x):(ptrs L)[j]?=some (.pointer (some ⟨x.pb,0,none⟩)):=by simp[ptrs,h]
theorem Dk (L:List Nd) (x:Nd):ptrs (L++[x])=ptrs L++[.pointer (some ⟨x.pb,0,none⟩)]:=by simp[ptrs]
theorem elNode:El 190 193 (.pointer none) 8:=⟨Tryz.underlying190,kR,rfl,om⟩
structure xH (B:Nat) (w:World) (L:List Nd):Prop where
 bud: ∀x∈L,Bud w x.pb x.n x.bf x.bt x.F x.T∧Inv x.n x.F x.T
 nd:(ys L).Nodup
 out: ∀x∈L,x.pb∉ys L
 lim: ∀y∈ys L,B≤y∧y<w.heap.size
theorem xH.keep {B:Nat} {S:List Nat} {w w':World} {L:List Nd} (h:xH B w L) (k:Keep S w w') (hs: ∀x∈L,x.pb∉S∧x.bf∉S∧x.bt∉S):xH B w' L:=
 ⟨fun x hx=>⟨(h.bud x hx).1.keep k (hs x hx).1 (hs x hx).2.1 (hs x hx).2.2,(h.bud x hx).2⟩,h.nd,h.out,fun y hy=>⟨(h.lim y hy).1,aG (h.lim y hy).2 k.size⟩⟩
theorem xH.below {B:Nat} {w w':World} {L:List Nd} (h:xH B w L) (k:Below w.heap.size w w'):xH B w' L:=h.keep (Keep.of (S:=[]) k) (fun x _=>⟨sI,sI,sI⟩)
theorem xH.snoc {B:Nat} {w w':World} {L:List Nd} (h:xH B w L) (k:Below w.heap.size w w') (x:Nd) (hb:Bud w' x.pb x.n x.bf x.bt x.F x.T) (hi:Inv x.n x.F x.T) (hB:B≤w.heap.size) (h1:w.heap.size≤x.pb) (h2:w.heap.size≤x.bf) (h3:w.heap.size≤x.bt):xH B w' (L++[x]):=by
 have h':=h.below k
 have e:=hb.ne
 refine⟨fun y hy=> ?_,?_,fun y hy=> ?_,fun y hy=> ?_⟩
 ·rcases aF.1 hy with q|q
  ·exact h'.bud y q
  ·simp at q;subst q;exact⟨hb,hi⟩
 ·rw[rR]
  refine bU.2 ⟨h.nd,by simp;exact e.1,fun a ha b hb=> ?_⟩
  have:=(h.lim a ha).2
  simp at hb
  rcases hb with rfl|rfl<;>omega
 ·rw[rR]
  intro q
  rcases aF.1 hy with p|p
  ·have l1:=(h.bud y p).1.ltp
   rcases aF.1 q with q|q
   ·exact h.out y p q
   ·simp at q;rcases q with q|q<;>omega
  ·simp at p;subst p
   rcases aF.1 q with q|q
   ·have:=(h.lim _ q).2;omega
   ·simp at q;rcases q with q|q
    ·exact e.2.1 q
    ·exact e.2.2 q
 ·rw[rR] at hy
  rcases aF.1 hy with q|q
  ·exact h'.lim y q
  ·simp at q
   rcases q with rfl|rfl
   ·exact⟨om,hb.ltf⟩
   ·exact⟨om,hb.ltt⟩
theorem xH.act {B:Nat} {w w':World} {L:List Nd} (h:xH B w L) {i:Nat} {x:Nd} (hx:L[i]?=some x) {F T:List (Int×Int)} (hb:Bud w' x.pb x.n x.bf x.bt F T) (hi:Inv x.n F T) (k:Keep [x.bf,x.bt] w w'):
 xH B w' (L.set i ⟨x.pb,x.bf,x.bt,x.n,F,T⟩)∧ys (L.set i ⟨x.pb,x.bf,x.bt,x.n,F,T⟩)=ys L∧ptrs (L.set i ⟨x.pb,x.bf,x.bt,x.n,F,T⟩)=ptrs L:=by
 have hil:=(ak.1 hx).1
 have hxe:=(ak.1 hx).2
 have split:L=L.take i++x::L.drop (i+1):=by
  conv=>lhs;rw[←bW i L]
  rw[dD hil,hxe]
 have setE:L.set i ⟨x.pb,x.bf,x.bt,x.n,F,T⟩=L.take i++⟨x.pb,x.bf,x.bt,x.n,F,T⟩::L.drop (i+1):=by
  rw[List.set_eq_take_append_cons_drop,if_pos hil]
 have ey:ys (L.set i ⟨x.pb,x.bf,x.bt,x.n,F,T⟩)=ys L:=by
  rw[setE]
  conv=>rhs;rw[split]
  simp[ys]
 have ep:ptrs (L.set i ⟨x.pb,x.bf,x.bt,x.n,F,T⟩)=ptrs L:=by
  rw[setE]
  conv=>rhs;rw[split]
  simp[ptrs]
 have mem: ∀z∈L.set i ⟨x.pb,x.bf,x.bt,x.n,F,T⟩,z=⟨x.pb,x.bf,x.bt,x.n,F,T⟩∨(z∈L∧z.bf≠x.bf∧z.bf≠x.bt∧z.bt≠x.bf∧z.bt≠x.bt):=by
  intro z hz
  rw[setE] at hz
  have nd:=h.nd
  rw[split] at nd
  simp only[ys,List.flatMap_append,fu] at nd
  obtain⟨n1,n2,n3⟩:=bU.1 nd
  obtain⟨m1,m2,m3⟩:=bU.1 n2
  rcases aF.1 hz with q|q
  ·right
   refine⟨dh q,?_⟩
   have zb:z.bf∈(L.take i).flatMap fun x=>[x.bf,x.bt]:=fD.2 ⟨z,q,sI⟩
   have zt:z.bt∈(L.take i).flatMap fun x=>[x.bf,x.bt]:=fD.2 ⟨z,q,sI⟩
   exact⟨n3 _ zb _ sI,n3 _ zb _ sI,n3 _ zt _ sI,n3 _ zt _ sI⟩
  ·rcases aC.1 q with q|q
   ·exact .inl q
   ·right
    refine⟨dJ q,?_⟩
    have zb:z.bf∈(L.drop (i+1)).flatMap fun x=>[x.bf,x.bt]:=fD.2 ⟨z,q,sI⟩
    have zt:z.bt∈(L.drop (i+1)).flatMap fun x=>[x.bf,x.bt]:=fD.2 ⟨z,q,sI⟩
    exact⟨fun e=>m3 _ sI _ zb e.symm,fun e=>m3 _ sI _ zb e.symm,fun e=>m3 _ sI _ zt e.symm,fun e=>m3 _ sI _ zt e.symm⟩
 have hxm:x∈L:=aA hx
 have o1: ∀z∈L,z.pb≠x.bf∧z.pb≠x.bt:=fun z hz=>⟨fun e=>h.out z hz (kL.2 ⟨x,hxm,.inl e⟩),fun e=>h.out z hz (kL.2 ⟨x,hxm,.inr e⟩)⟩
 refine⟨⟨fun z hz=> ?_,by rw[ey];exact h.nd,fun z hz=> ?_,fun y hy=> ?_⟩,ey,ep⟩
 ·rcases mem z hz with rfl|⟨q,q1,q2,q3,q4⟩
  ·exact⟨hb,hi⟩
  ·exact⟨(h.bud z q).1.keep k (by simp;exact o1 z q) (by simp;exact⟨q1,q2⟩) (by simp;exact⟨q3,q4⟩),(h.bud z q).2⟩
 ·rw[ey]
  rcases mem z hz with rfl|⟨q,_⟩
  ·exact h.out x hxm
  ·exact h.out z q
 ·rw[ey] at hy
  exact⟨(h.lim y hy).1,aG (h.lim y hy).2 k.size⟩
structure iH (B:Nat) (w:World) (pz:Nat) (mn lw hi:Int) (O:List (List Int)) (L:List Nd):Prop where
 z: ∃qn kn qo ko,gH w pz [.slice none 0 0,.slice none 0 0,.int .i64 mn,.int .i64 lw,.int .i64 hi,.slice qn L.length kn,.slice qo L.length ko]∧j6 (ys L) w (.slice qn L.length kn) (ptrs L)∧rP (ys L) w (.slice qo L.length ko) O
 b:xH B w L
 out:pz∉ys L
 ord:vM O L.length
 m0:0≤mn∧mn≤lw∧lw≤hi∧hi≤9223372036854775807
theorem iH.below {B:Nat} {w w':World} {pz:Nat} {mn lw hi:Int} {O:List (List Int)} {L:List Nd} (h:iH B w pz mn lw hi O L) (k:Below w.heap.size w w'):iH B w' pz mn lw hi O L:=by
 obtain⟨qn,kn,qo,ko,h1,h2,h3⟩:=h.z
 exact⟨⟨qn,kn,qo,ko,h1.go k,h2.below k,h3.below k⟩,h.b.below k,h.out,h.ord,h.m0⟩
theorem iH.keep {B:Nat} {S:List Nat} {w w':World} {pz:Nat} {mn lw hi:Int} {O:List (List Int)} {L:List Nd} (h:iH B w pz mn lw hi O L) {i:Nat} {x:Nd} (hx:L[i]?=some x) {F T:List (Int×Int)} (hb:Bud w' x.pb x.n x.bf x.bt F T) (hv:Inv x.n F T) (k:Keep [x.bf,x.bt] w w'):
 iH B w' pz mn lw hi O (L.set i ⟨x.pb,x.bf,x.bt,x.n,F,T⟩)∧Keep (ys L) w w':=by
 obtain⟨qn,kn,qo,ko,h1,h2,h3⟩:=h.z
 obtain⟨b1,b2,b3⟩:=h.b.act hx hb hv k
 have hxm:=aA hx
 have hS: ∀s∈[x.bf,x.bt],s∈ys L:=fun s hs=>by
  simp at hs
  exact kL.2 ⟨x,hxm,hs⟩
 have kY:Keep (ys L) w w':=k.mono hS
 refine⟨⟨⟨qn,kn,qo,ko,?_,?_,?_⟩,b1,by rw[b2];exact h.out,by simpa using h.ord,h.m0⟩,kY⟩
 ·rw[bR];exact h1.keep kY h.out
 ·rw[bR,b2,b3];exact h2.keep kY (fun s hs=>.inl hs)
 ·rw[bR,b2];exact h3.keep kY (fun s hs=>.inl hs)
end
section
open Go.RowKit Go.Maps
theorem iH.open {B:Nat} {w:World} {pz:Nat} {mn lw hi:Int} {O:List (List Int)} {L:List Nd} (h:iH B w pz mn lw hi O L) (hL:0<L.length):
 ∃g off kn qo ko,gH w pz [.slice none 0 0,.slice none 0 0,.int .i64 mn,.int .i64 lw,.int .i64 hi,.slice (some ⟨g,off,none⟩) L.length kn,.slice qo L.length ko]∧g∉ys L∧g<w.heap.size∧L.length≤kn∧kn≤maxLen∧
  (∀j y,L[j]?=some y→w.cell? ⟨g,off+j,none⟩=some (.pointer (some ⟨y.pb,0,none⟩)))∧rP (ys L) w (.slice qo L.length ko) O:=by
 obtain⟨qn,kn,qo,ko,h1,h2,h3⟩:=h.z
 obtain⟨p,cap,e,hc1,hc2,hc⟩:=h2
 rw[lQ] at e hc1
 injection e with e1 e2 e3
 subst e1 e3
 obtain⟨x,hx⟩: ∃x,L[0]?=some x:=⟨L[0],au hL⟩
 obtain⟨g,off,rfl,hg,hgl,_⟩:=hc 0 _ (vg hx)
 refine⟨g,off,kn,qo,ko,h1,hg,hgl,hc1,hc2,fun j y hj=> ?_,h3⟩
 obtain⟨g',off',e,_,_,q⟩:=hc j _ (vg hj)
 injection e with e;injection e with ea eb
 subst ea eb
 exact q
theorem rZ {B:Nat} (pz:Nat) (mn lw hi:Int) (O:List (List Int)) (L:List Nd) (v:Nat) (w:World) (h:iH B w pz mn lw hi O L) (hv:v<L.length):
 Calls Tryz.prog 120 #[.pointer (some ⟨pz,0,none⟩),.int .i64 v] w fun e w'=>e= .returned .nilIface∧Below w.heap.size w w':=by
 obtain⟨g,off,kn,qo,ko,hz,_,_,hk1,hk2,_,_⟩:=h.open om
 have c5:=hz.c 5 _ rfl;have cl:=hz.lt
 unfold maxLen at hk2
 have v0:decide ((v:Int)<0)=false:=decide_eq_false om
 have v1:decide (L.length≤v)=false:=decide_eq_false om
 clear h hz
 go_enter Tryz.func120,Tryz.ntmps120
 go_wp2
 go_ret
 exact⟨rfl,gI⟩
theorem qG {B:Nat} {ev:Nat→Addr} (pz:Nat) (mn lw hi:Int) (O:List (List Int)) (L:List Nd) (v:Int) (w:World) (hE:jV B ev w) (h:iH B w pz mn lw hi O L) (hL:0<L.length) (hv:v<0∨(L.length:Int)≤v):
 Calls Tryz.prog 120 #[.pointer (some ⟨pz,0,none⟩),.int .i64 v] w fun e w'=>e= .returned (iP ev 2)∧Below w.heap.size w w':=by
 obtain⟨g,off,kn,qo,ko,hz,_,_,hk1,hk2,_,_⟩:=h.open hL
 have c5:=hz.c 5 _ rfl;have cl:=hz.lt
 unfold maxLen at hk2
 have r2:=hE.c2
 have e1:iP ev 2= .iface 434 (.pointer (some (ev 2))):=rfl
 rw[e1]
 clear h hz hE e1
 by_cases v0:v<0
 ·have v0':decide (v<0)=true:=decide_eq_true v0
  clear v0 hv
  go_enter Tryz.func120,Tryz.ntmps120
  go_wp2
  go_ret
  exact⟨rfl,gI⟩
 ·have v1:decide (v<0)=false:=decide_eq_false v0
  have v2:decide ((L.length:Int)≤v)=true:=decide_eq_true om
  clear v0 hv
  go_enter Tryz.func120,Tryz.ntmps120
  go_wp2
  go_ret
  exact⟨rfl,gI⟩
theorem may_any {B:Nat} (pz:Nat) (mn lw hi:Int) (O:List (List Int)) (L:List Nd) (v:Nat) (x:Nd) (k:Int) (u:Bool) (w:World) (h:iH B w pz mn lw hi O L) (hx:L[v]?=some x) (k0:0≤k) (k6:k≤6):
 Calls Tryz.prog 122 #[.pointer (some ⟨pz,0,none⟩),.int .i64 v,.int .i64 k,.bool u] w fun e w'=>e= .returned (.bool (mayN mn k u x))∧Below w.heap.size w w':=by
 have hl:=(ak.1 hx).1
 obtain⟨g,off,kn,qo,ko,hz,_,_,hk1,hk2,hc,_⟩:=h.open om
 have r1:=hc v x hx
 have c5:=hz.c 5 _ rfl;have cl:=hz.lt
 unfold maxLen at hk2
 have hb:=h.b.bud x (aA hx)
 have PG:=ah (uR x.pb x.n x.bf x.bt x.F x.T w hb.1)
 have s1:=hb.2.BP.1
 have s2:iD x.F≤256:=by have:=hb.2.BP.2;have:=hb.2.n2;omega
 have HZ:=ah hz
 have hm:=h.m0.1
 have hs:=lI k0 k6
 obtain⟨t1,t2⟩:=nK k0 k6
 have em:mayN mn k u x=(u||decide (mn≤iD x.F-sz k)):=rfl
 rw[em]
 generalize iD x.F=s at*
 clear h hz hx hc hb em
 go_enter Tryz.func122,Tryz.ntmps122
 go_wp2_with fail
 refine PG.out.mono ?_
 rintro e w1 ⟨rfl,hb1⟩
 have M:=HZ.out.go hb1
 have c2:=M.c 2 _ rfl;have ml:=M.lt
 clear M PG
 cases u with
 |true=>
  go_wp2_with fail
  go_quiet (fail)
  go_wp2
  go_ret
  exact⟨rfl,gI⟩
 |false=>
  go_wp2_with fail
  go_quiet (fail)
  go_wp2
  go_ret
  exact⟨rfl,gI⟩
theorem qH {B:Nat} (pz:Nat) (mn lw hi:Int) (O:List (List Int)) (L:List Nd) (v:Nat) (x:Nd) (w:World) (h:iH B w pz mn lw hi O L) (hx:L[v]?=some x):
 Calls Tryz.prog 64 #[.pointer (some ⟨pz,0,none⟩),.int .i64 v] w fun e w'=>e= .returned (.tuple #[.int .i64 (iD x.F),.nilIface])∧Below w.heap.size w w':=by
 have hl:=(ak.1 hx).1
 have NO:=ah (rZ pz mn lw hi O L v w h hl)
 have HH:=ah h;have HX:=ah hx
 clear h hx
 go_enter Tryz.func64,Tryz.ntmps64
 go_wp2_with fail
 refine NO.out.mono ?_
 rintro e w1 ⟨rfl,hb1⟩
 have h1:=HH.out.below hb1
 obtain⟨g,off,kn,qo,ko,hz,_,_,hk1,hk2,hc,_⟩:=h1.open om
 have r1:=hc v x HX.out
 have c5:=hz.c 5 _ rfl;have cl:=hz.lt
 unfold maxLen at hk2
 have PG:=ah (uR x.pb x.n x.bf x.bt x.F x.T w1 (h1.b.bud x (aA HX.out)).1)
 clear h1 hz hc NO
 go_wp2_with fail
 refine PG.out.mono ?_
 rintro e w2 ⟨rfl,hb2⟩
 go_wp2
 go_ret2
 exact⟨rfl,hb1.trans (hb2.mono hb1.size)⟩
theorem oF {B:Nat} {ev:Nat→Addr} (pz:Nat) (mn lw hi:Int) (O:List (List Int)) (L:List Nd) (v:Int) (w:World) (hE:jV B ev w) (h:iH B w pz mn lw hi O L) (hL:0<L.length) (hv:v<0∨(L.length:Int)≤v):
 Calls Tryz.prog 64 #[.pointer (some ⟨pz,0,none⟩),.int .i64 v] w fun e w'=>e= .returned (.tuple #[.int .i64 0,iP ev 2])∧Below w.heap.size w w':=by
 have NO:=ah (qG pz mn lw hi O L v w hE h hL hv)
 have e1:iP ev 2= .iface 434 (.pointer (some (ev 2))):=rfl
 rw[e1] at NO ⊢
 clear h hv hE e1
 go_enter Tryz.func64,Tryz.ntmps64
 go_wp2_with fail
 refine NO.out.mono ?_
 rintro e w1 ⟨rfl,hb1⟩
 go_wp2
 go_ret2
 exact⟨rfl,hb1⟩
theorem low_ok {B:Nat} (pz:Nat) (mn lw hi:Int) (O:List (List Int)) (L:List Nd) (v:Nat) (x:Nd) (w:World) (h:iH B w pz mn lw hi O L) (hx:L[v]?=some x):
 Calls Tryz.prog 142 #[.pointer (some ⟨pz,0,none⟩),.int .i64 v] w fun e w'=>e= .returned (.tuple #[.bool (decide (iD x.F<lw)),.nilIface])∧Below w.heap.size w w':=by
 have hl:=(ak.1 hx).1
 have FR:=ah (qH pz mn lw hi O L v x w h hx)
 obtain⟨qn,kn,qo,ko,hz,_⟩:=h.z
 have HZ:=ah hz
 clear h hx hz
 go_enter Tryz.func142,Tryz.ntmps142
 go_wp2_with fail
 refine FR.out.mono ?_
 rintro e w1 ⟨rfl,hb1⟩
 have M:=HZ.out.go hb1
 have c3:=M.c 3 _ rfl;have ml:=M.lt
 clear M FR
 go_wp2
 go_ret2
 exact⟨rfl,hb1⟩
theorem low_err {B:Nat} {ev:Nat→Addr} (pz:Nat) (mn lw hi:Int) (O:List (List Int)) (L:List Nd) (v:Int) (w:World) (hE:jV B ev w) (h:iH B w pz mn lw hi O L) (hL:0<L.length) (hv:v<0∨(L.length:Int)≤v):
 Calls Tryz.prog 142 #[.pointer (some ⟨pz,0,none⟩),.int .i64 v] w fun e w'=>e= .returned (.tuple #[.bool false,iP ev 2])∧Below w.heap.size w w':=by
 have FR:=ah (oF pz mn lw hi O L v w hE h hL hv)
 have e1:iP ev 2= .iface 434 (.pointer (some (ev 2))):=rfl
 rw[e1] at FR ⊢
 clear h hv hE e1
 go_enter Tryz.func142,Tryz.ntmps142
 go_wp2_with fail
 refine FR.out.mono ?_
 rintro e w1 ⟨rfl,hb1⟩
 go_wp2
 go_ret2
 exact⟨rfl,hb1⟩
def lackN (hi:Int) (x:Nd):Int:=if hi-iD x.F<0 then 0 else hi-iD x.F
theorem lack_ok {B:Nat} (pz:Nat) (mn lw hi:Int) (O:List (List Int)) (L:List Nd) (v:Nat) (x:Nd) (w:World) (h:iH B w pz mn lw hi O L) (hx:L[v]?=some x):
 Calls Tryz.prog 100 #[.pointer (some ⟨pz,0,none⟩),.int .i64 v] w fun e w'=>e= .returned (.tuple #[.int .i64 (lackN hi x),.nilIface])∧Below w.heap.size w w':=by
 have hl:=(ak.1 hx).1
 have FR:=ah (qH pz mn lw hi O L v x w h hx)
 obtain⟨qn,kn,qo,ko,hz,_⟩:=h.z
 have HZ:=ah hz
 obtain⟨m1,m2,m3,m4⟩:=h.m0
 have hb:=h.b.bud x (aA hx)
 have s1:=hb.2.BP.1
 have s2:iD x.F≤256:=by have:=hb.2.BP.2;have:=hb.2.n2;omega
 have e0:lackN hi x=if hi-iD x.F<0 then 0 else hi-iD x.F:=rfl
 rw[e0]
 generalize iD x.F=s at*
 have h0:0≤hi:=om
 clear h hx hz hb e0 m1 m2 m3
 by_cases q:hi-s<0
 all_goals
  go_enter Tryz.func100,Tryz.ntmps100
  go_wp2_with fail
  refine FR.out.mono ?_
  rintro e w1 ⟨rfl,hb1⟩
  have M:=HZ.out.go hb1
  have c4:=M.c 4 _ rfl;have ml:=M.lt
  clear M
  go_wp2
  go_ret2
  exact⟨by simp[q]<;>omega,hb1⟩
theorem lack_err {B:Nat} {ev:Nat→Addr} (pz:Nat) (mn lw hi:Int) (O:List (List Int)) (L:List Nd) (v:Int) (w:World) (hE:jV B ev w) (h:iH B w pz mn lw hi O L) (hL:0<L.length) (hv:v<0∨(L.length:Int)≤v):
 Calls Tryz.prog 100 #[.pointer (some ⟨pz,0,none⟩),.int .i64 v] w fun e w'=>e= .returned (.tuple #[.int .i64 0,iP ev 2])∧Below w.heap.size w w':=by
 have FR:=ah (oF pz mn lw hi O L v w hE h hL hv)
 have e1:iP ev 2= .iface 434 (.pointer (some (ev 2))):=rfl
 rw[e1] at FR ⊢
 clear h hv hE e1
 go_enter Tryz.func100,Tryz.ntmps100
 go_wp2_with fail
 refine FR.out.mono ?_
 rintro e w1 ⟨rfl,hb1⟩
 go_wp2
 go_ret2
 exact⟨rfl,hb1⟩
end
section
open Go.RowKit Go.Extern.Stop Go.Stop Go.Extern
theorem yg (v:Value) (w:World):(Extern.ReflectliteType.typeOf #[.iface 434 v]).run Tryz.prog w= .ok (.iface 391 (.agg #[.pointer (some ⟨11,434,none⟩)])) w:=kR
theorem sj (w:World):((Extern.ReflectliteType.method fun t=>do Rtype.noPackHeld "Comparable" t;(fun a=>Value.bool a.comparable)<$>typeInfo t) #[.agg #[.pointer (some ⟨11,434,none⟩)]]).run Tryz.prog w= .ok (.bool true) w:=kR
theorem lq (v:Value) (w:World):(Go.method 571 391 v "Comparable").run Tryz.prog w= .ok (327,v) w:=kR
theorem wComp:(Tryz.prog.info? 434).map (·.comparable)=some true:=kR
theorem wSize:(Tryz.prog.info? 454).map (·.size)=some 1:=kR
theorem wNoIs (v:Value) (xT:TypeId) (w:World):(Instr.typeAssert (.iface 434 v) xT 393 true).run Tryz.prog w= .ok (.tuple #[.nilIface,.bool false]) w:=run_typeAssert_lacksB Tryz.underlying393 kR kR v xT w
theorem wNoAs (v:Value) (xT:TypeId) (w:World):(Instr.typeAssert (.iface 434 v) xT 408 true).run Tryz.prog w= .ok (.tuple #[.nilIface,.bool false]) w:=run_typeAssert_lacksB Tryz.underlying408 kR kR v xT w
theorem wM (v:Value) (xT:TypeId) (w:World):(Instr.typeAssert (.iface 434 v) xT 396 true).run Tryz.prog w= .ok (.tuple #[.nilIface,.bool false]) w:=run_typeAssert_lacksB Tryz.underlying396 kR kR v xT w
theorem uh (v:Value) (xT:TypeId) (w:World):(Instr.typeAssert (.iface 434 v) xT 397 true).run Tryz.prog w= .ok (.tuple #[.nilIface,.bool false]) w:=run_typeAssert_lacksB Tryz.underlying397 kR kR v xT w
theorem is_same (a:Addr) (w:World):
 Calls Tryz.prog 157 #[.iface 434 (.pointer (some a)),.iface 434 (.pointer (some a))] w fun e w'=>e= .returned (.bool true)∧w=w':=by
 obtain⟨i,hi,hcmp⟩:=eY.1 wComp
 obtain⟨j,hj,hjs⟩:=eY.1 wSize
 have h8:= @run_callFunc_extern Tryz.prog 236 _ Extern.ReflectliteType.typeOf Tryz.func236 kR kR kR kR
 have h32:= @run_callFunc_extern Tryz.prog 327 _ (Extern.ReflectliteType.method fun t=>do Rtype.noPackHeld "Comparable" t;pure (.bool (←typeInfo t).comparable)) Tryz.func327 kR kR kR kR
 have tT:=yg
 have cT:=sj
 have mR:=lq
 have heq:=run_eql_iface_ptr_same (P:=Tryz.prog) w a Tryz.underlying33 Tryz.underlying434 hi hcmp hj
 go_enter Tryz.func157,Tryz.ntmps157
 go_wp2
 refine wp_loop_rounds 1 ?_
 rw[rounds_succ]
 go_wp2
 go_ret
 exact⟨rfl,rfl⟩
theorem is_other (a b:Addr) (ca cb:Array Value) (ta tb:TypeId) (w:World) (hne:a≠b) (ha:w.heap[a.block]?=some (.cells ca ta (0,0))) (hb:w.heap[b.block]?=some (.cells cb tb (0,0))):
 Calls Tryz.prog 157 #[.iface 434 (.pointer (some a)),.iface 434 (.pointer (some b))] w fun e w'=>e= .returned (.bool false)∧w=w':=by
 obtain⟨i,hi,hcmp⟩:=eY.1 wComp
 obtain⟨j,hj,hjs⟩:=eY.1 wSize
 have h8:= @run_callFunc_extern Tryz.prog 236 _ Extern.ReflectliteType.typeOf Tryz.func236 kR kR kR kR
 have h32:= @run_callFunc_extern Tryz.prog 327 _ (Extern.ReflectliteType.method fun t=>do Rtype.noPackHeld "Comparable" t;pure (.bool (←typeInfo t).comparable)) Tryz.func327 kR kR kR kR
 have tT:=yg
 have cT:=sj
 have mR:=lq
 have nE:=wNoIs
 have uE:=wM
 have vE:=uh
 have heq:=run_eql_iface_ptr_other (P:=Tryz.prog) w Tryz.underlying33 Tryz.underlying434 hi hcmp hj (by rw[hjs];decide) hne ha hb
 go_enter Tryz.func157,Tryz.ntmps157
 go_wp2
 refine wp_loop_rounds 1 ?_
 rw[rounds_succ]
 go_wp2
 go_ret
 exact⟨rfl,rfl⟩
theorem xValueOf (t:Addr) (w:World):(ReflectliteValue.unpack (.iface 334 (.pointer (some t)))).run Tryz.prog w
 = .ok (.agg #[.pointer (some ⟨11,334,none⟩),.pointer (some ⟨w.heap.size,0,none⟩),.int .u64 150]) (w.alloc (.cells #[.pointer (some t)] 334)):=kR
theorem xType (a:Addr) (w:World):(ReflectliteValue.methodAny (ReflectliteValue.valueError "reflectlite.Value.Type" 0) (fun t _ _ _=>ReflectliteType.toType t) #[.agg #[.pointer (some ⟨11,334,none⟩),.pointer (some a),.int .u64 150]]).run Tryz.prog w
 = .ok (.iface 391 (.agg #[.pointer (some ⟨11,334,none⟩)])) w:=kR
theorem yh (h:Value) (w:World):(Go.method 571 391 (.agg #[h]) "Kind").run Tryz.prog w= .ok (314,h) w:=kR
theorem xKindPP (w:World):((ReflectliteType.abiMethod fun t=>(fun a:Nat=>Value.int IntKind.u8 (a:Int))<$>Rtype.kind t) #[.pointer (some ⟨11,334,none⟩)]).run Tryz.prog w= .ok (.int .u8 22) w:=kR
theorem xKindP (w:World):((ReflectliteType.abiMethod fun t=>(fun a:Nat=>Value.int IntKind.u8 (a:Int))<$>Rtype.kind t) #[.pointer (some ⟨11,332,none⟩)]).run Tryz.prog w= .ok (.int .u8 22) w:=kR
theorem xrlm (z:Sem Value) (f:TypeId→Addr→Nat→Nat→Sem Value) (v:Value):
 ReflectliteValue.method z f #[v]=(do match ←ReflectliteValue.parts v with|none=>z|some (t,a,fl)=>f t a fl (fl % 32)):=rfl
theorem xParts (a:Addr) (w:World):(ReflectliteValue.parts (.agg #[.pointer (some ⟨11,334,none⟩),.pointer (some a),.int .u64 150])).run Tryz.prog w= .ok (some (334,a,150)) w:=kR
theorem xIsNil (a p:Addr) (W:World) (ha:W.cell? a=some (.pointer (some p))):
 (ReflectliteValue.method (ReflectliteValue.valueError "reflectlite.Value.IsNil" 0) ReflectliteValue.isNil #[.agg #[.pointer (some ⟨11,334,none⟩),.pointer (some a),.int .u64 150]]).run Tryz.prog W= .ok (.bool false) W:=by
 rw[xrlm]
 simp only[fA,xParts,Result.andThen]
 simp[ReflectliteValue.isNil,loadVar,isAgg,underlying,Tryz.underlying334,ha,Result.andThen]
theorem yj (h:Value) (w:World):(Go.method 571 391 (.agg #[h]) "Elem").run Tryz.prog w= .ok (328,.agg #[h]) w:=kR
theorem pO (h:Value) (w:World):(Go.method 571 391 (.agg #[h]) "Implements").run Tryz.prog w= .ok (329,.agg #[h]) w:=kR
theorem nS (h:Value) (w:World):(Go.method 571 391 (.agg #[h]) "AssignableTo").run Tryz.prog w= .ok (326,.agg #[h]) w:=kR
theorem xElem (w:World):(ReflectliteType.method ReflectliteType.elem #[.agg #[.pointer (some ⟨11,334,none⟩)]]).run Tryz.prog w= .ok (.iface 391 (.agg #[.pointer (some ⟨11,332,none⟩)])) w:=kR
theorem yt (w:World):(ReflectliteType.relation "Implements" ReflectliteType.implements_ #[.agg #[.pointer (some ⟨11,332,none⟩)],.iface 391 (.agg #[.pointer (some ⟨11,33,none⟩)])]).run Tryz.prog w= .ok (.bool true) w:=kR
theorem Dl (w:World):(ReflectliteType.relation "AssignableTo" ReflectliteType.assignableTo #[.agg #[.pointer (some ⟨11,434,none⟩)],.iface 391 (.agg #[.pointer (some ⟨11,332,none⟩)])]).run Tryz.prog w= .ok (.bool false) w:=kR
theorem as_miss {B:Nat} {ev:Nat→Addr} (e t:Addr) (w:World) (hE:oW B ev w):
 Calls Tryz.prog 209 #[.iface 434 (.pointer (some e)),.iface 334 (.pointer (some t))] w fun ev w'=>ev= .returned (.bool false)∧Below w.heap.size w w':=by
 have hg:=hE.typ
 have hB:=hE.size
 have hlt:10<w.heap.size:=aG hE.globT hE.size
 have h6:= @run_callFunc_extern Tryz.prog 248 _ (fun args=>ReflectliteValue.unpack (args.getD 0 (.tuple #[]))) Tryz.func248 kR kR kR kR
 have h7:= @run_callFunc_extern Tryz.prog 249 _ (ReflectliteValue.methodAny (ReflectliteValue.valueError "reflectlite.Value.Type" 0) (fun t _ _ _=>ReflectliteType.toType t)) Tryz.func249 kR kR kR kR
 have h8:= @run_callFunc_extern Tryz.prog 250 _ (ReflectliteValue.method (ReflectliteValue.valueError "reflectlite.Value.IsNil" 0) ReflectliteValue.isNil) Tryz.func250 kR kR kR kR
 have h27:= @run_callFunc_extern Tryz.prog 314 _ (ReflectliteType.abiMethod fun t=>do pure (.int .u8 (←Rtype.kind t))) Tryz.func314 kR kR kR kR
 have h37:= @run_callFunc_extern Tryz.prog 328 _ (ReflectliteType.method ReflectliteType.elem) Tryz.func328 kR kR kR kR
 have h38:= @run_callFunc_extern Tryz.prog 329 _ (ReflectliteType.relation "Implements" ReflectliteType.implements_) Tryz.func329 kR kR kR kR
 have h10:= @run_callFunc_extern Tryz.prog 236 _ ReflectliteType.typeOf Tryz.func236 kR kR kR kR
 have h35:= @run_callFunc_extern Tryz.prog 326 _ (ReflectliteType.relation "AssignableTo" ReflectliteType.assignableTo) Tryz.func326 kR kR kR kR
 have tO:=yg
 have mA:=nS
 have aN:=Dl
 have f6:=xValueOf
 have f7:=xType
 have mK:=yh
 have mE:=yj
 have mI:=pO
 have k27:=xKindPP
 have k25:=xKindP
 have e27:=xElem
 have i25:=yt
 have nA:=wNoAs
 have nU:=wM
 have nV:=uh
 have n8:=xIsNil ⟨w.heap.size,0,none⟩ t ((w.alloc (.cells #[.pointer (some t)] 334)).alloc (.cells #[.pointer (some ⟨11,334,none⟩),.pointer (some ⟨w.heap.size,0,none⟩),.int .u64 150] 372)) sI
 have hg2:((w.alloc (.cells #[.pointer (some t)] 334)).alloc (.cells #[.pointer (some ⟨11,334,none⟩),.pointer (some ⟨w.heap.size,0,none⟩),.int .u64 150] 372)).cell? ⟨10,0,none⟩=some (.iface 391 (.agg #[.pointer (some ⟨11,33,none⟩)])):=by
  rw[World.cell?_alloc_lt _ _ ⟨10,0,none⟩ (by simp;omega),World.cell?_alloc_lt _ _ ⟨10,0,none⟩ hlt];exact hg
 go_enter Tryz.func209,Tryz.ntmps209
 go_wp2
 refine wp_loop_rounds 1 ?_
 rw[rounds_succ]
 go_wp2
 go_ret
 exact⟨rfl,gI⟩
end
section
open Go.RowKit
theorem code_nil (w:World):Calls Tryz.prog 112 #[.nilIface] w fun e w'=>e= .returned (.tuple #[.int .i64 0,.int .i64 (-1)])∧w=w':=by
 go_enter Tryz.func112,Tryz.ntmps112
 go_wp2
 go_ret2
 exact⟨rfl,rfl⟩
theorem Dm {B:Nat} {ev:Nat→Addr} (i j:Nat) (w:World) (hE:oW B ev w) (i1:1≤i) (i2:i≤10) (j1:1≤j) (j2:j≤10):
 Calls Tryz.prog 157 #[.iface 434 (.pointer (some (ev i))),.iface 434 (.pointer (some (ev j)))] w fun e w'=>e= .returned (.bool (decide (i=j)))∧w=w':=by
 by_cases h:i=j
 ·subst h
  rw[decide_eq_true rfl]
  exact is_same _ w
 ·rw[decide_eq_false h]
  obtain⟨ca,ta,ha⟩:=hE.row i i1 i2
  obtain⟨cb,tb,hb⟩:=hE.row j j1 j2
  exact is_other _ _ ca cb ta tb w (fun e=>h (hE.inj i j i1 i2 j1 j2 e)) ha hb
theorem Dn {B:Nat} {ev:Nat→Addr} (i:Nat) (w:World) (hE:oW B ev w) (i1:1≤i) (i2:i≤10):
 Calls Tryz.prog 112 #[.iface 434 (.pointer (some (ev i)))] w fun e w'=>e= .returned (.tuple #[.int .i64 i,.int .i64 (-1)])∧Below w.heap.size w w':=by
 have hB:=hE.size
 go_enter Tryz.func112,Tryz.ntmps112
 go_wp2_with fail
 refine(as_miss _ _ _ (hE.below gI)).mono ?_
 rintro e w1 ⟨rfl,hb1⟩;obtain⟨c1,f1⟩:=lZ hb1;have z1:=hb1.size;try simp at z1 c1 f1
 have hE1:oW B ev w1:=hE.below gI
 have g1:=hE1.cell 1 (by decide) (by decide)
 have g2:=hE1.cell 2 (by decide) (by decide)
 have g3:=hE1.cell 3 (by decide) (by decide)
 have g4:=hE1.cell 4 (by decide) (by decide)
 have g5:=hE1.cell 5 (by decide) (by decide)
 have g6:=hE1.cell 6 (by decide) (by decide)
 have g7:=hE1.cell 7 (by decide) (by decide)
 have g8:=hE1.cell 8 (by decide) (by decide)
 have g9:=hE1.cell 9 (by decide) (by decide)
 have g10:=hE1.cell 10 (by decide) (by decide)
 simp only[errG,iP] at g1 g2 g3 g4 g5 g6 g7 g8 g9 g10
 clear c1 f1
 have cells: ∀k,k<10→(w1.alloc (.cells #[.iface 434 (.pointer (some (ev 1))),.iface 434 (.pointer (some (ev 2))),.iface 434 (.pointer (some (ev 3))),.iface 434 (.pointer (some (ev 4))),.iface 434 (.pointer (some (ev 5))),.iface 434 (.pointer (some (ev 6))),.iface 434 (.pointer (some (ev 7))),.iface 434 (.pointer (some (ev 8))),.iface 434 (.pointer (some (ev 9))),.iface 434 (.pointer (some (ev 10)))] 33)).cell? ⟨w1.heap.size,k,none⟩=some (.iface 434 (.pointer (some (ev (k+1))))):=by
  intro k hk
  rw[aJ _ _ _ _ rfl]
  match k,hk with
  |0,_=>rfl
  |1,_=>rfl
  |2,_=>rfl
  |3,_=>rfl
  |4,_=>rfl
  |5,_=>rfl
  |6,_=>rfl
  |7,_=>rfl
  |8,_=>rfl
  |9,_=>rfl
 have CC:=ah cells
 clear cells
 go_wp2
 go_loop [3,28] (fun a s=>∃k:Nat,k<i∧s= .int .i64 k∧a= .int .i64 (-1)) (fun _ s=>i-(intOf s).toNat)
 case atStart=>exact⟨0,om,rfl,rfl⟩
 case round=>
  obtain⟨k,hk,rfl,rfl⟩:=hrel
  have hck:=CC.out k om
  have hki:(k:Int)<10:=om
  by_cases hlt:k+1<i
  ·have hd:decide (i=k+1)=false:=decide_eq_false om
   have isK:=Dm i (k+1) (w1.alloc (.cells #[.iface 434 (.pointer (some (ev 1))),.iface 434 (.pointer (some (ev 2))),.iface 434 (.pointer (some (ev 3))),.iface 434 (.pointer (some (ev 4))),.iface 434 (.pointer (some (ev 5))),.iface 434 (.pointer (some (ev 6))),.iface 434 (.pointer (some (ev 7))),.iface 434 (.pointer (some (ev 8))),.iface 434 (.pointer (some (ev 9))),.iface 434 (.pointer (some (ev 10)))] 33)) (hE1.below gI) i1 i2 om om
   rw[hd] at isK
   have IK:=ah isK
   clear isK hd
   go_wp2_with (go_at_call 157;refine IK.out.mono ?_;rintro e w' ⟨rfl,rfl⟩)
   go_round
   case rel=>exact⟨k+1,om,by go_num,rfl⟩
   case measure=>simp[intOf];omega
  ·have hd:decide (i=k+1)=true:=decide_eq_true om
   have isK:=Dm i (k+1) (w1.alloc (.cells #[.iface 434 (.pointer (some (ev 1))),.iface 434 (.pointer (some (ev 2))),.iface 434 (.pointer (some (ev 3))),.iface 434 (.pointer (some (ev 4))),.iface 434 (.pointer (some (ev 5))),.iface 434 (.pointer (some (ev 6))),.iface 434 (.pointer (some (ev 7))),.iface 434 (.pointer (some (ev 8))),.iface 434 (.pointer (some (ev 9))),.iface 434 (.pointer (some (ev 10)))] 33)) (hE1.below gI) i1 i2 om om
   rw[hd] at isK
   have IK:=ah isK
   clear isK hd
   go_wp2_with (go_at_call 157;refine IK.out.mono ?_;rintro e w' ⟨rfl,rfl⟩)
   go_ret2
   have e1:i=k+1:=om
   exact⟨by rw[show(i:Int)=(k:Int)+1 from om];rfl,gI⟩
theorem code_any {B:Nat} {ev:Nat→Addr} (i:Nat) (w:World) (hE:oW B ev w) (i2:i≤10):
 Calls Tryz.prog 112 #[iP ev i] w fun e w'=>e= .returned (.tuple #[.int .i64 i,.int .i64 (-1)])∧Below w.heap.size w w':=by
 rcases i with _|i
 ·exact(code_nil w).mono fun e w' ⟨h1,h2⟩=>⟨h1,by rw[←h2];exact aK _ _⟩
 ·exact Dn (i+1) w hE om i2
theorem Dp {B:Nat} {ev:Nat→Addr} (i:Nat) (n:Int) (w:World) (hE:oW B ev w) (i2:i≤10):
 Calls Tryz.prog 21 #[iP ev i,.int .i64 n] w fun e w'=>e= .returned (.bool (decide ((i:Int)=n)))∧Below w.heap.size w w':=by
 obtain⟨m,hm⟩: ∃m:Int,m=(i:Int):=⟨_,rfl⟩
 have cc:=code_any i w hE i2
 rw[←hm] at cc
 have CC:=ah cc
 clear cc
 rw[←hm]
 clear hm
 generalize iP ev i=x at CC
 by_cases h:m=n
 ·rw[decide_eq_true h]
  have hd:(m==n)=true:=by simpa using h
  clear h
  go_enter Tryz.func21,Tryz.ntmps21
  go_wp2_with fail
  refine CC.out.mono ?_
  rintro e w1 ⟨rfl,hb1⟩;obtain⟨c1,f1⟩:=lZ hb1;have z1:=hb1.size;try simp at z1 c1 f1
  go_wp2
  go_ret
  exact⟨rfl,gI⟩
 ·rw[decide_eq_false h]
  have hd:(m==n)=false:=by simpa using h
  clear h
  go_enter Tryz.func21,Tryz.ntmps21
  go_wp2_with fail
  refine CC.out.mono ?_
  rintro e w1 ⟨rfl,hb1⟩;obtain⟨c1,f1⟩:=lZ hb1;have z1:=hb1.size;try simp at z1 c1 f1
  go_wp2
  go_ret
  exact⟨rfl,gI⟩
theorem kP {B:Nat} {ev:Nat→Addr} (i:Nat) (n:Int) (w:World) (hE:oW B ev w) (i2:i≤10) (h:(i:Int)=n):
 Calls Tryz.prog 21 #[iP ev i,.int .i64 n] w fun e w'=>e= .returned (.bool true)∧Below w.heap.size w w':=by
 have:=Dp i n w hE i2
 rwa [decide_eq_true h] at this
theorem oW.go {B:Nat} {ev:Nat→Addr} {w w':World} (h:oW B ev w) (hb:Below w.heap.size w w'):oW B ev w':=h.below (hb.mono h.size)
theorem jV.go {B:Nat} {ev:Nat→Addr} {w w':World} (h:jV B ev w) (hb:Below w.heap.size w w'):jV B ev w':=h.below (hb.mono h.size)
end
end Go.Proofs.YtdcbhlcbiokbeaaGreatDoor
