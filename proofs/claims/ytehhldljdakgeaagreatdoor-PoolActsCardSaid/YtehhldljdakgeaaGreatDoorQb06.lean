/- Lemmas. -/
import Derived.Test.YtehhldljdakgeaaGreatDoorQb01
import Derived.Test.YtehhldljdakgeaaGreatDoorQb05
set_option linter.unusedSimpArgs false
set_option linter.unusedVariables false
set_option maxHeartbeats 16000000
set_option maxRecDepth 100000
namespace Go.Proofs.YtehhldljdakgeaaGreatDoor
open Go.RowKit Go.Maps Go.Proofs.Tryz
attribute [local go_sem ↓] aJ aK
structure Nd where
 pb:Nat
 bf:Nat
 bt:Nat
 n:Int
 F:List (Int×Int)
 T:List (Int×Int)
def ys (L:List Nd):List Nat:=L.flatMap fun x=>[x.bf,x.bt]
theorem Bv (L:List Nd) (x:Nd):ys (L++[x])=ys L++[x.bf,x.bt]:=by simp[ys]
theorem vY {L:List Nd} {y:Nat}:y∈ys L↔∃x∈L,y=x.bf∨y=x.bt:=by simp[ys]
def mayN (mn k:Int) (u:Bool) (x:Nd):Bool:=u||decide (mn≤oJ x.F-sz k)
def okN (mn k:Int) (u:Bool) (x:Nd):Bool:=mayN mn k u x&&(nD k x.F).isSome
def D5 (mn k:Int) (u:Bool) (L:List Nd) (j:Int):Bool:=match L[j.toNat]? with|some x=>okN mn k u x|none=>false
def wK (mn k:Int) (u:Bool) (L:List Nd) (D:List Int):Option Int:=D.find? (D5 mn k u L)
def yH (k:Int) (x:Nd):Bool:=x.F.any fun p=>decide (k≤p.2)
def Eh (k:Int) (L:List Nd):Nat:=if L.any (yH k) then 7 else 5
def y7 (k:Int) (b:Int×Int) (x:Nd):Nd:=⟨x.pb,x.bf,x.bt,x.n,uz k b x.F,rC b.1 k x.T⟩
def gaveN (a k:Int) (x:Nd):Nd:=⟨x.pb,x.bf,x.bt,x.n,giveF a k x.F,tZ a x.T⟩
abbrev Pl:=Int×Int×Int
def lQ (mn:Int) (O:List (List Int)) (L:List Nd) (v k:Int) (u:Bool):List Nd×Nat×Pl:=
 if v<0∨(L.length:Int)≤v∨k<0∨6<k then(L,2,(0,0,0)) else
 match wK mn k u L (O.getD v.toNat []) with
 |none=>(L,Eh k L,(0,0,0))
 |some j=>match L[j.toNat]? with
  |none=>(L,0,(0,0,0))
  |some x=>match nD k x.F with
   |none=>(L,0,(0,0,0))
   |some b=>(L.set j.toNat (y7 k b x),0,(j,b.1,k))
def giveZ (L:List Nd) (v a k:Int):List Nd×Nat:=
 if v<0∨(L.length:Int)≤v then(L,2) else
 match L[v.toNat]? with
 |none=>(L,2)
 |some x=>if zX x.T a=some k then(L.set v.toNat (gaveN a k x),0) else(L,4)
theorem GX {k:Int} {F:List (Int×Int)}:(nD k F).isSome=F.any fun p=>decide (k≤p.2):=by
 cases h:nD k F with
 |none=>
  have:=DY h;symm
  simp only[je,iJ,decide_eq_true_eq];intro x hx;have:=this x hx;omega
 |some b=>
  have:=oG h;symm
  simp only[jf,fA,decide_eq_true_eq];exact⟨b,this.1,this.2⟩
theorem Jt {α:Type} {p:α→Bool} {D:List α} {i:Nat} {y:α} (h: ∀z∈D.take i,p z=false) (hy:D[i]?=some y) (hp:p y=true):D.find? p=some y:=by
 have hl:=(au.1 hy).1;have e:D=D.take i++y::D.drop (i+1):=by
  conv=>lhs;rw[←bX i D]
  rw[dY hl,(au.1 hy).2]
 rw[e,List.find?_append,fB.2 (fun z hz=>by simp[h z hz])];simp[hp]
theorem V6 {α:Type} {p:α→Bool} {D:List α} (h: ∀z∈D,p z=false):D.find? p=none:=fB.2 fun z hz=>by simp[h z hz]
structure GZ (x y:Nd):Prop where
 pb:y.pb=x.pb
 bf:y.bf=x.bf
 bt:y.bt=x.bt
 n:y.n=x.n
theorem GZ.refl (x:Nd):GZ x x:=⟨rfl,rfl,rfl,rfl⟩
def rY (L M:List Nd):Prop:=L.length=M.length∧∀(i:Nat) (x y:Nd),L[i]?=some x→M[i]?=some y→GZ x y
theorem rY.refl (L:List Nd):rY L L:=⟨rfl,fun i x y h1 h2=>by rw[h1] at h2;obtain rfl:=aO h2;exact GZ.refl _⟩
theorem rY.set {L:List Nd} {i:Nat} {x y:Nd} (hx:L[i]?=some x) (h:GZ x y):rY L (L.set i y):=⟨sI,fun j a b ha hb=>by
 by_cases e:i=j
 ·subst e
  rw[hx] at ha;obtain rfl:=aO ha;rw[aZ (au.1 hx).1] at hb;obtain rfl:=aO hb;exact h
 ·rw[bQ e] at hb
  rw[ha] at hb;obtain rfl:=aO hb;exact GZ.refl _⟩
theorem rY.cons {x y:Nd} {L M:List Nd} (h:rY (x::L) (y::M)):GZ x y∧rY L M:=
 ⟨h.2 0 x y rfl rfl,by have:=h.1;simpa using this,fun i a b ha hb=>h.2 (i+1) a b (by simpa using ha) (by simpa using hb)⟩
theorem rY.map {α:Type} (f:Nd→α) (hf: ∀x y,GZ x y→f y=f x): ∀{L M:List Nd},rY L M→M.map f=L.map f
 |[],[],_=>rfl
 |[],y::M,h=>by have:=h.1;simp at this
 |x::L,[],h=>by have:=h.1;simp at this
 |x::L,y::M,h=>by
  obtain⟨h1,h2⟩:=h.cons;simp[hf x y h1,rY.map f hf h2]
theorem ys_eq (L:List Nd):ys L=(L.map fun x=>[x.bf,x.bt]).flatten:=by simp[ys,List.flatMap]
theorem rY.ys {L M:List Nd} (h:rY L M):ys M=ys L:=by
 rw[ys_eq,ys_eq,h.map (fun x=>[x.bf,x.bt]) fun x y q=>by simp[q.bf,q.bt]]
theorem tQ (mn:Int) (O:List (List Int)) (L:List Nd) (v k:Int) (u:Bool):rY L (lQ mn O L v k u).1:=by
 unfold lQ;split
 ·exact rY.refl _
 split
 ·exact rY.refl _
 split
 ·exact rY.refl _
 rename_i x hx;split
 ·exact rY.refl _
 ·exact rY.set hx ⟨rfl,rfl,rfl,rfl⟩
def rM (O:List (List Int)) (n:Nat):Prop:=O.length=n∧∀D∈O,D.length=n∧∀x:Int,x∈D↔0≤x∧x<n
theorem rM.get {O:List (List Int)} {n:Nat} (h:rM O n) {i:Nat} (hi:i<n): ∃D,O[i]?=some D∧D.length=n∧∀x:Int,x∈D↔0≤x∧x<n:=by
 have hl:i<O.length:=by rw[h.1];exact hi
 exact⟨O[i],aA hl,h.2 _ (List.getElem_mem hl)⟩
theorem V7 {mn k:Int} {u:Bool} {L:List Nd} {j:Int} (h:D5 mn k u L j=true): ∃x b,L[j.toNat]?=some x∧okN mn k u x=true∧nD k x.F=some b:=by
 unfold D5 at h;split at h
 ·rename_i x hx
  have h':=h;unfold okN at h';simp only[bV] at h';obtain⟨b,hb⟩:=iy.1 h'.2;exact⟨x,b,hx,h,hb⟩
 ·cases h
theorem Sw {mn k:Int} {u:Bool} {L:List Nd} {D:List Int} {j:Int} (h:wK mn k u L D=some j):j∈D∧D5 mn k u L j=true:=
 ⟨dJ h,gU h⟩
theorem Bw {mn:Int} {O:List (List Int)} {L:List Nd} {v k:Int} {u:Bool} (h:v<0∨(L.length:Int)≤v∨k<0∨6<k):lQ mn O L v k u=(L,2,(0,0,0)):=by
 unfold lQ;rw[if_pos h]
theorem FB {mn:Int} {O:List (List Int)} {L:List Nd} {v k:Int} {u:Bool} (h: ¬(v<0∨(L.length:Int)≤v∨k<0∨6<k)) {D:List Int} (hD:O[v.toNat]?=some D) (hp:wK mn k u L D=none):lQ mn O L v k u=(L,Eh k L,(0,0,0)):=by
 unfold lQ;rw[if_neg h,dQ,hD,iA,hp]
theorem Bz {mn:Int} {O:List (List Int)} {L:List Nd} {v k:Int} {u:Bool} (h: ¬(v<0∨(L.length:Int)≤v∨k<0∨6<k)) {D:List Int} (hD:O[v.toNat]?=some D) {j:Int} (hp:wK mn k u L D=some j) {x:Nd} {b:Int×Int} (hx:L[j.toNat]?=some x) (hb:nD k x.F=some b):
 lQ mn O L v k u=(L.set j.toNat (y7 k b x),0,(j,b.1,k)):=by
 unfold lQ;rw[if_neg h,dQ,hD,iA,hp];simp only[hx,hb]
theorem y8 {mn:Int} {O:List (List Int)} {L:List Nd} {v k:Int} {u:Bool} (hO:rM O L.length) (h: ¬(v<0∨(L.length:Int)≤v∨k<0∨6<k)):
 ∃D,O[v.toNat]?=some D∧D.length=L.length∧(∀x:Int,x∈D↔0≤x∧x<L.length)∧
  ((wK mn k u L D=none∧lQ mn O L v k u=(L,Eh k L,(0,0,0)))∨
   ∃j x b,wK mn k u L D=some j∧0≤j∧j<L.length∧L[j.toNat]?=some x∧okN mn k u x=true∧nD k x.F=some b∧lQ mn O L v k u=(L.set j.toNat (y7 k b x),0,(j,b.1,k))):=by
 obtain⟨D,hD,hl,hm⟩:=hO.get (i:=v.toNat) om;refine⟨D,hD,hl,hm,?_⟩;cases hp:wK mn k u L D with
 |none=>exact .inl ⟨rfl,FB h hD hp⟩
 |some j=>
  obtain⟨h1,h2⟩:=Sw hp;obtain⟨x,b,hx,hk,hb⟩:=V7 h2;have:=(hm j).1 h1;exact .inr ⟨j,x,b,rfl,this.1,this.2,hx,hk,hb,Bz h hD hp hx hb⟩
theorem PZ (k:Int) (L:List Nd):Eh k L=7∨Eh k L=5:=by unfold Eh;split<;>simp
structure Sl where
 nd:Int
 pg:Int
 T:List Bool
def oQ (T:List Bool):Nat:=T.countP id
def kK (s:Sl):Nat:=oQ s.T
theorem qR (T:List Bool):oQ T≤T.length:=List.countP_le_length
theorem y9 (T:List Bool) {k:Nat} {b:Bool} (h:T[k]?=some b):oQ T=oQ (T.take k)+(if b then 1 else 0)+oQ (T.drop (k+1)):=by
 have hl:=(au.1 h).1;have hv:=(au.1 h).2;conv=>lhs;rw[←bX k T,dY hl,hv]
 unfold oQ;rw[List.countP_append,List.countP_cons];cases b<;>simp<;>omega
theorem yI {T:List Bool} {k:Nat} {b:Bool} (h:T[k]?=some b) (c:Bool):oQ (T.set k c)+(if b then 1 else 0)=oQ T+if c then 1 else 0:=by
 have hl:=(au.1 h).1;rw[y9 T h];have e:(T.set k c)[k]?=some c:=aZ hl;rw[y9 _ e];have e1:(T.set k c).take k=T.take k:=by
  rw[List.take_set_of_le (aI _)]
 have e2:(T.set k c).drop (k+1)=T.drop (k+1):=by
  rw[List.drop_set_of_lt om]
 rw[e1,e2];omega
def lG (T:List Bool):Nat:=T.findIdx fun b=> !b
theorem mX {T:List Bool} (h:oQ T<T.length):lG T<T.length∧T[lG T]?=some false∧∀j,j<lG T→T[j]?=some true:=by
 have hx: ∃b∈T,(!b)=true:=by
  apply Classical.byContradiction;intro hn;have:oQ T=T.length:=by
   unfold oQ;rw[List.countP_eq_length];intro b hb;cases b with
   |true=>rfl
   |false=>exact(hn ⟨false,hb,rfl⟩).elim
  omega
 have hl:lG T<T.length:=List.findIdx_lt_length_of_exists hx;refine⟨hl,?_,fun j hj=> ?_⟩
 ·rw[aA hl]
  have:=List.findIdx_getElem (p:=fun b:Bool=> !b) (xs:=T) (w:=hl);have e:(!T[lG T])=true:=this;have e2:T[lG T]=false:=by simpa using e
  rw[e2]
 ·have hjl:j<T.length:=by omega
  rw[aA hjl];have:=List.not_of_lt_findIdx (p:=fun b:Bool=> !b) (xs:=T) hj;simpa using this
theorem Ju {T:List Bool} {k:Nat} (hk:T[k]?=some false) (h: ∀j,j<k→T[j]?=some true):lG T=k:=by
 have hm:oQ T<T.length:=by
  have h1:=y9 T hk;have h2:=qR (T.take k);have h3:=qR (T.drop (k+1));have hl:=(au.1 hk).1;simp at h1 h2 h3;omega
 obtain⟨h1,h2,h3⟩:=mX hm;rcases gW (lG T) k with q|q|q
 ·rw[h _ q] at h2;cases h2
 ·exact q
 ·rw[h3 _ q] at hk;cases hk
def BF (C:List Sl) (m:Nat):Nat:=match C[m]? with|some z=>kK z|none=>0
theorem yJ {C:List Sl} {m:Nat} {s:Sl} (h:C[m]?=some s):BF C m=kK s:=by unfold BF;rw[h]
def oh (v:Int) (C:List Sl):Nat→Option Nat
 |0=>none
 |i+1=>match C[i]? with
  |none=>oh v C i
  |some s=>if s.nd=v∧kK s<s.T.length then match oh v C i with
   |none=>some i
   |some m=>if BF C m<kK s then some i else some m
   else oh v C i
theorem mV {v:Int} {C:List Sl}: ∀{i m:Nat},oh v C i=some m→m<i∧∃s,C[m]?=some s∧s.nd=v∧kK s<s.T.length
 |0,m,h=>by cases h
 |i+1,m,h=>by
  unfold oh at h;split at h
  ·have:=mV h;exact⟨om,this.2⟩
  rename_i s hs;split at h
  ·rename_i hc
   split at h
   ·obtain rfl:=aO h;exact⟨om,s,hs,hc⟩
   ·rename_i m' hm'
    split at h
    ·obtain rfl:=aO h;exact⟨om,s,hs,hc⟩
    ·obtain rfl:=aO h;have:=mV hm';exact⟨om,this.2⟩
  ·have:=mV h;exact⟨om,this.2⟩
theorem zG {v:Int} {C:List Sl}: ∀{i:Nat},oh v C i=none→∀j s,j<i→C[j]?=some s→s.nd=v→s.T.length≤kK s
 |0,h=>fun j s hj=>om
 |i+1,h=>by
  unfold oh at h;intro j s hj hs hv;split at h
  ·rename_i hn
   by_cases e:j=i
   ·subst e;rw[hs] at hn;cases hn
   ·exact zG h j s om hs hv
  rename_i z hz;split at h
  ·split at h
   ·cases h
   ·split at h<;>cases h
  ·rename_i hc
   by_cases e:j=i
   ·subst e;rw[hs] at hz;obtain rfl:=aO hz
    have:=fun q=>hc ⟨hv,q⟩;omega
   ·exact zG h j s om hs hv
def ltP (s:Sl) (j a:Int):Prop:=s.nd<j∨s.nd=j∧s.pg<a
instance (s:Sl) (j a:Int):Decidable (ltP s j a):=by unfold ltP;infer_instance
def ltS (s t:Sl):Prop:=ltP s t.nd t.pg
def vZ (j a:Int) (C:List Sl):Nat:=C.findIdx fun s=> !decide (ltP s j a)
theorem zH (j a:Int) (C:List Sl):vZ j a C≤C.length:=List.findIdx_le_length
theorem Jv {j a:Int} {C:List Sl} {i:Nat} {s:Sl} (hi:i<vZ j a C) (hs:C[i]?=some s):ltP s j a:=by
 have:=List.not_of_lt_findIdx (p:=fun s=> !decide (ltP s j a)) (xs:=C) hi;have e:=(au.1 hs).2;simp[e] at this;exact this
theorem V8 {j a:Int} {C:List Sl} {s:Sl} (hs:C[vZ j a C]?=some s): ¬ltP s j a:=by
 have hl:=(au.1 hs).1;have:=List.findIdx_getElem (p:=fun s=> !decide (ltP s j a)) (xs:=C) (w:=hl);have e:=(au.1 hs).2;have t2:(!decide (ltP C[vZ j a C] j a))=true:=this;rw[e] at t2;simpa using t2
theorem V9 {s t u:Sl} (h:ltS s t) (k:ltS t u):ltS s u:=by unfold ltS ltP at*;omega
theorem Va {j a:Int} {C:List Sl} (hp:C.Pairwise ltS) {i:Nat} {s:Sl} (hi:vZ j a C≤i) (hs:C[i]?=some s): ¬ltP s j a:=by
 have hl:=(au.1 hs).1;obtain⟨t,ht⟩: ∃t,C[vZ j a C]?=some t:=⟨C[vZ j a C]' om,aA _⟩;have h0:=V8 ht;by_cases e:vZ j a C=i
 ·rw[e] at ht;rw[hs] at ht;obtain rfl:=aO ht;exact h0
 ·have:=dO.1 hp (vZ j a C) i om hl om
  rw[(au.1 ht).2,(au.1 hs).2] at this;unfold ltS ltP at*;omega
def wC (C:List Sl) (s:Sl):List Sl:=C.take (vZ s.nd s.pg C)++s::C.drop (vZ s.nd s.pg C)
def kL (e:Nat):Nat:=64 / e
def kU (e:Nat):List Bool:=List.replicate (kL e) false
theorem rZ {e:Nat} (h1:1≤e) (h2:e≤64):0<kL e:=Nat.div_pos h2 h1
theorem xC (e:Nat):oQ (kU e)=0:=by unfold oQ kU;simp[List.countP_replicate]
theorem BG {e:Nat} (h1:1≤e) (h2:e≤64):lG (kU e)=0:=Ju (by have:=rZ h1 h2;unfold kU;simp[fF];omega) (fun j hj=>om)
abbrev Ob:=Int×Int
def vK (e:Nat) (s:Sl) (k:Nat):Ob:=(s.nd,s.pg*64+k*e)
def oH (s:Sl) (k:Nat) (b:Bool):Sl:=⟨s.nd,s.pg,s.T.set k b⟩
structure Ca where
 L:List Nd
 C:List Sl
def takeC (mn:Int) (O:List (List Int)) (e:Nat) (c:Ca) (v:Int) (u:Bool):Ca×Nat×Ob:=
 if v<0∨(c.L.length:Int)≤v then(c,2,(0,0)) else
 match oh v c.C c.C.length with
 |some i=>match c.C[i]? with
  |none=>(c,2,(0,0))
  |some s=>(⟨c.L,c.C.set i (oH s (lG s.T) true)⟩,0,vK e s (lG s.T))
 |none=>if (lQ mn O c.L v 0 u).2.1=0 then
   (⟨(lQ mn O c.L v 0 u).1,wC c.C (oH ⟨(lQ mn O c.L v 0 u).2.2.1,(lQ mn O c.L v 0 u).2.2.2.1,kU e⟩ 0 true)⟩,0,((lQ mn O c.L v 0 u).2.2.1,(lQ mn O c.L v 0 u).2.2.2.1*64))
  else(⟨(lQ mn O c.L v 0 u).1,c.C⟩,(lQ mn O c.L v 0 u).2.1,(0,0))
def Jc (e:Nat) (o:Ob) (s:Sl):Bool:=decide (s.nd=o.1)&&decide (0≤o.2-s.pg*64)&&decide ((o.2-s.pg*64) % e=0)&&(s.T[((o.2-s.pg*64) / e).toNat]?==some true)
def kOf (e:Nat) (o:Ob) (s:Sl):Nat:=((o.2-s.pg*64) / e).toNat
theorem Q5 {e:Nat} (e1:1≤e) {o:Ob} {s:Sl}:Jc e o s=true↔s.T[kOf e o s]?=some true∧o=vK e s (kOf e o s):=by
 unfold Jc kOf vK;simp only[bV,decide_eq_true_eq,beq_iff_eq];constructor
 ·rintro⟨⟨⟨h1,h2⟩,h3⟩,h4⟩
  refine⟨h4,Prod.ext h1.symm ?_⟩;have hq:0≤(o.2-s.pg*64) / (e:Int):=Int.ediv_nonneg h2 om;have:=Int.mul_ediv_add_emod (o.2-s.pg*64) e;show o.2=s.pg*64+(((o.2-s.pg*64) / (e:Int)).toNat:Int)*e;rw[Int.toNat_of_nonneg hq,Int.mul_comm ((o.2-s.pg*64) / (e:Int)) e];omega
 ·rintro⟨h4,h⟩
  have h1:o.1=s.nd:=congrArg Prod.fst h;have h2:o.2=s.pg*64+(((o.2-s.pg*64) / e).toNat:Int)*e:=congrArg Prod.snd h;obtain⟨q,hq⟩: ∃q:Nat,q=((o.2-s.pg*64) / e).toNat:=⟨_,rfl⟩;rw[←hq] at h2 h4 ⊢;have h3:o.2-s.pg*64=(q:Int)*e:=om;have h5:0≤(q:Int)*e:=fO om om;refine⟨⟨⟨h1.symm,om⟩,?_⟩,h4⟩;rw[h3,Int.mul_emod_left]
theorem Q6 {e:Nat} (e1:1≤e) {o:Ob} {s:Sl} {k:Nat} (h:o=vK e s k):kOf e o s=k:=by
 unfold kOf;have h2:o.2=s.pg*64+(k:Int)*e:=congrArg Prod.snd h;rw[show o.2-s.pg*64=(k:Int)*e by omega,Int.mul_ediv_cancel _ om];omega
def H7 (e:Nat) (o:Ob) (C:List Sl):Option Nat:=C.findIdx? (Jc e o)
theorem zI {e:Nat} {o:Ob} {C:List Sl} {i:Nat} (h:H7 e o C=some i): ∃s,C[i]?=some s∧Jc e o s=true∧∀j z,j<i→C[j]?=some z→Jc e o z=false:=by
 obtain⟨hl,h1,h2⟩:=List.findIdx?_eq_some_iff_getElem.1 h;refine⟨C[i],aA hl,h1,fun j z hj hz=> ?_⟩;have:=h2 j hj;rw[(au.1 hz).2] at this;simpa using this
theorem Ei {e:Nat} {o:Ob} {C:List Sl} (h:H7 e o C=none): ∀s∈C,Jc e o s=false:=by
 have:=List.findIdx?_eq_none_iff.1 h;exact this
def giveC (e:Nat) (c:Ca) (o:Ob):Ca×Nat:=match H7 e o c.C with
 |none=>(c,9)
 |some i=>match c.C[i]? with
  |none=>(c,9)
  |some s=>(⟨c.L,c.C.set i (oH s (kOf e o s) false)⟩,0)
def goS (v:Int) (s:Sl):Bool:=decide (s.nd=v)&&decide (kK s=0)
def Jw (v most:Int):Nat→Ca×Nat→Ca×Nat
 |0,r=>r
 |i+1,(c,n)=>match c.C[i]? with
  |none=>Jw v most i (c,n)
  |some s=>if (n:Int)<most∧goS v s=true then Jw v most i (⟨(giveZ c.L s.nd s.pg 0).1,c.C.eraseIdx i⟩,n+1) else Jw v most i (c,n)
def qU (C:List Sl):List Pl:=C.map fun s=>(s.nd,s.pg,0)
def tq (C:List Sl):Nat:=(C.map kK).sum
def yK (C:List Sl):Nat:=(C.map fun s=>s.T.length).sum
def obsS (e:Nat) (s:Sl):List Ob:=(List.range s.T.length).filterMap fun k=>if s.T[k]?=some true then some (vK e s k) else none
def qj (e:Nat) (C:List Sl):List Ob:=C.flatMap (obsS e)
theorem Sy {n:Int} {F T:List (Int×Int)} (h:Inv n F T) {a k:Int} (hg:zX T a=some k):0≤a∧a<256:=by
 have:=h.rngT (yE hg);exact⟨this.1,this.2.1⟩
def yL (L:List Nd) (s:Sl):Prop:=0≤s.nd∧∃x,L[s.nd.toNat]?=some x∧zX x.T s.pg=some 0
structure uR (e:Nat) (c:Ca):Prop where
 e1:1≤e
 e2:e≤64
 zi: ∀x∈c.L,Inv x.n x.F x.T
 zl:c.L.length≤4
 srt:c.C.Pairwise ltS
 len: ∀s∈c.C,s.T.length=kL e
 tk: ∀s∈c.C,yL c.L s
theorem yL.rng {L:List Nd} {s:Sl} (h:yL L s) (hI: ∀x∈L,Inv x.n x.F x.T):0≤s.nd∧s.nd<L.length∧0≤s.pg∧s.pg<256:=by
 obtain⟨h0,x,hx,hg⟩:=h;have hl:=(au.1 hx).1;have:=Sy (hI x (aF hx)) hg;exact⟨h0,om,this.1,this.2⟩
theorem Ej: ∀(n:Nat) (l:List Int),l.Pairwise (· < ·)→(∀x∈l,0≤x∧x<n)→l.length≤n
 |n,[],_,_=>sI
 |n,x::r,hp,h=>by
  obtain⟨p1,p2⟩:=bN.1 hp;obtain⟨m,rfl⟩: ∃m,n=m+1:=⟨n-1,by have:=h x sI;omega⟩;have:=Ej m (r.map fun y=>y-1) (by
   rw[jr];exact p2.imp fun q=>om) (fun y hy=>by
   obtain⟨z,hz,rfl⟩:=bC.1 hy;have a:=p1 z hz;have b:=h z (ak _ hz);have c:=h x sI;omega)
  simp at this ⊢;omega
theorem uR.rng {e:Nat} {c:Ca} (h:uR e c) {s:Sl} (hs:s∈c.C):0≤s.nd∧s.nd<4∧0≤s.pg∧s.pg<256:=by
 have:=(h.tk s hs).rng h.zi;have:=h.zl;omega
theorem Vb {C:List Sl} (hp:C.Pairwise ltS) (hr: ∀s∈C,0≤s.nd∧s.nd<4∧0≤s.pg∧s.pg<256):C.length≤1024:=by
 have:=Ej 1024 (C.map fun s=>s.nd*256+s.pg) (by
  rw[jr];refine hp.imp_of_mem fun {a b} ha hb q=> ?_
  have:=hr a ha;have:=hr b hb;unfold ltS ltP at q;omega) (fun x hx=>by
  obtain⟨s,hs,rfl⟩:=bC.1 hx;have:=hr s hs;omega)
 simpa using this
theorem uR.few {e:Nat} {c:Ca} (h:uR e c):c.C.length≤1024:=Vb h.srt fun s hs=>h.rng hs
theorem uR.get {e:Nat} {c:Ca} (h:uR e c) {i:Nat} {s:Sl} (hs:c.C[i]?=some s):s∈c.C:=aF hs
theorem uR.use {e:Nat} {c:Ca} (h:uR e c) {i:Nat} {s:Sl} (hs:c.C[i]?=some s) (k:Nat) (b:Bool):uR e ⟨c.L,c.C.set i (oH s k b)⟩:=by
 have hm:=aF hs;have hl:=(au.1 hs).1;have hv:=(au.1 hs).2;refine⟨h.e1,h.e2,h.zi,h.zl,?_,fun z hz=> ?_,fun z hz=> ?_⟩
 ·rw[dO]
  intro a d ha hd hlt;simp at ha hd;have hp:=dO.1 h.srt a d ha hd hlt;simp only[List.getElem_set];by_cases e1:i=a
  ·subst e1
   have:i≠d:=om;rw[if_pos rfl,if_neg this];rw[hv] at hp;exact hp
  ·rw[if_neg e1]
   by_cases e2:i=d
   ·subst e2
    rw[if_pos rfl];rw[hv] at hp;exact hp
   ·rw[if_neg e2];exact hp
 ·rcases dF hz with q|q
  ·exact h.len z q
  ·subst q;simp[oH];exact h.len s hm
 ·rcases dF hz with q|q
  ·exact h.tk z q
  ·subst q;exact h.tk s hm
theorem vL {C:List Sl} {s z:Sl}:z∈wC C s↔z=s∨z∈C:=by
 unfold wC;rw[aD,aB];constructor
 ·rintro(h|h|h)
  ·exact .inr (fD h)
  ·exact .inl h
  ·exact .inr (fV h)
 ·rintro(h|h)
  ·exact .inr (.inl h)
  ·rw[←bX (vZ s.nd s.pg C) C,aD] at h
   rcases h with h|h
   ·exact .inl h
   ·exact .inr (.inr h)
theorem Jy (C:List Sl) (s:Sl):(wC C s).length=C.length+1:=by
 have:=zH s.nd s.pg C;unfold wC;simp;omega
theorem Jz {C:List Sl} {s:Sl} (hp:C.Pairwise ltS) (hn: ∀z∈C,¬(z.nd=s.nd∧z.pg=s.pg)):(wC C s).Pairwise ltS:=by
 unfold wC;have hall: ∀a∈C.take (vZ s.nd s.pg C),ltS a s:=fun a ha=>by
  obtain⟨i,hi⟩:=dA ha;have hl:=(au.1 hi).1;rw[bD] at hl;rw[dH om] at hi;exact Jv om hi
 have hge: ∀a∈C.drop (vZ s.nd s.pg C),ltS s a:=fun a ha=>by
  obtain⟨i,hi⟩:=dA ha;rw[cO] at hi;have h1:=Va (j:=s.nd) (a:=s.pg) hp (i:=vZ s.nd s.pg C+i) om hi;have h2:=hn a (aF hi);unfold ltS ltP at*;omega
 refine dV.2 ⟨hp.sublist (List.take_sublist _ _),bN.2 ⟨hge,hp.sublist (List.drop_sublist _ _)⟩,fun a ha b hb=> ?_⟩;rcases aB.1 hb with rfl|hb
 ·exact hall a ha
 ·exact V9 (hall a ha) (hge b hb)
theorem yL.set {L:List Nd} {s:Sl} (h:yL L s) {j:Nat} {x y:Nd} (hx:L[j]?=some x) (hy:s.nd=j→zX x.T s.pg=some 0→zX y.T s.pg=some 0):yL (L.set j y) s:=by
 obtain⟨h0,z,hz,hg⟩:=h;refine⟨h0,?_⟩;by_cases e:j=s.nd.toNat
 ·subst e
  rw[hx] at hz;obtain rfl:=aO hz;exact⟨y,aZ (au.1 hx).1,hy om hg⟩
 ·exact⟨z,by rw[bQ e];exact hz,hg⟩
theorem Em {n:Int} {F T:List (Int×Int)} (h:Inv n F T) {b:Int×Int} (hb:b∈F):zX T b.1=none:=by
 cases hg:zX T b.1 with
 |none=>rfl
 |some k=>exact((h.hand hb).other (aj _ (yE hg)) rfl).elim
theorem Sz {mn:Int} {O:List (List Int)} {L:List Nd} {v:Int} {u:Bool} (hO:rM O L.length) (hI: ∀x∈L,Inv x.n x.F x.T) (h: ¬(v<0∨(L.length:Int)≤v)):
 (∃k,(k=7∨k=5)∧lQ mn O L v 0 u=(L,k,(0,0,0)))∨
 ∃(j:Nat) (x:Nd) (b:Int×Int),L[j]?=some x∧nD 0 x.F=some b∧zX x.T b.1=none∧0≤b.1∧b.1<256∧lQ mn O L v 0 u=(L.set j (y7 0 b x),0,((j:Int),b.1,0)):=by
 obtain⟨D,hD,hl,hm,hc⟩:=y8 (mn:=mn) (u:=u) (k:=0) hO (by omega: ¬(v<0∨(L.length:Int)≤v∨(0:Int)<0∨(6:Int)<0));rcases hc with⟨hp,e⟩|⟨j,x,b,hp,j0,j1,hx,hk,hb,e⟩
 ·exact .inl ⟨Eh 0 L,PZ 0 L,e⟩
 ·refine .inr ⟨j.toNat,x,b,hx,hb,?_,?_,?_,?_⟩
  ·exact Em (hI x (aF hx)) (oG hb).1
  ·exact((hI x (aF hx)).rngF (oG hb).1).1
  ·exact((hI x (aF hx)).rngF (oG hb).1).2.1
  ·rw[e,Int.toNat_of_nonneg j0]
theorem Vd {x:Nd} (h:Inv x.n x.F x.T) {k:Int} (k0:0≤k) {b:Int×Int} (hb:nD k x.F=some b):Inv (y7 k b x).n (y7 k b x).F (y7 k b x).T:=h.take k0 hb
theorem zi_set {L:List Nd} (h: ∀x∈L,Inv x.n x.F x.T) {j:Nat} {y:Nd} (hy:Inv y.n y.F y.T): ∀x∈L.set j y,Inv x.n x.F x.T:=fun x hx=>by
 rcases dF hx with q|q
 ·exact h x q
 ·subst q;exact hy
theorem yL.took {L:List Nd} {s:Sl} (h:yL L s) {j:Nat} {x:Nd} (hx:L[j]?=some x) {b:Int×Int} (hi:Inv x.n x.F x.T) (hb:zX x.T b.1=none):yL (L.set j (y7 0 b x)) s:=
 h.set hx fun _ hg=>by
  show zX (rC b.1 0 x.T) s.pg=some 0;rw[Ao _ _ _ hi.ta];split
  ·rfl
  ·exact hg
theorem wL {mn:Int} {O:List (List Int)} {e:Nat} {c:Ca} {v:Int} {u:Bool} (hO:rM O c.L.length) (h:uR e c):uR e (takeC mn O e c v u).1:=by
 unfold takeC;by_cases hv:v<0∨(c.L.length:Int)≤v
 ·rw[if_pos hv];exact h
 rw[if_neg hv];cases hb:oh v c.C c.C.length with
 |some i=>
  obtain⟨_,s,hs,_⟩:=mV hb;simp only[hs];exact h.use hs _ _
 |none=>
  simp only;rcases Sz (mn:=mn) (u:=u) hO h.zi hv with⟨k,hk,e⟩|⟨j,x,b,hx,hbb,hf,b0,b1,e⟩
  ·rw[e]
   have: ¬(k=0):=by rcases hk with q|q<;>omega
   simp only[this,if_false];exact h
  ·rw[e]
   simp only[if_true];have hix:=h.zi x (aF hx);have hjl:=(au.1 hx).1;refine⟨h.e1,h.e2,zi_set h.zi (Vd hix om hbb),by simpa using h.zl,?_,fun z hz=> ?_,fun z hz=> ?_⟩
   ·refine Jz h.srt fun z hz q=> ?_
    obtain⟨q1,q2⟩:=q;obtain⟨_,y,hy,hg⟩:=h.tk z hz;simp only[oH] at q1 q2;rw[q1,bS,hx] at hy;obtain rfl:=aO hy;rw[q2,hf] at hg;cases hg
   ·rcases vL.1 hz with rfl|q
    ·simp[oH,kU]
    ·exact h.len z q
   ·rcases vL.1 hz with rfl|q
    ·refine⟨by simp[oH],y7 0 b x,?_,?_⟩
     ·simp only[oH,bS]
      exact aZ hjl
     ·show zX (rC b.1 0 x.T) b.1=some 0
      rw[Ao _ _ _ hix.ta,if_pos rfl]
    ·exact(h.tk z q).took hx hix hf
theorem SC (mn:Int) (O:List (List Int)) (e:Nat) (c:Ca) (v:Int) (u:Bool):rY c.L (takeC mn O e c v u).1.L:=by
 unfold takeC;split
 ·exact rY.refl _
 split
 ·split<;>exact rY.refl _
 ·split<;>exact tQ ..
theorem JA {k:Int} {F:List (Int×Int)} (h:nD k F=none):Df k F=[]:=by
 unfold nD at h;split at h
 ·assumption
 ·cases h
theorem H8 {k:Int} {F:List (Int×Int)} {x:Int×Int} (h:nD k F=some x): ∃y r,Df k F=y::r∧Ae y r=x:=by
 unfold nD at h;split at h
 ·cases h
 ·rename_i y r e
  exact⟨y,r,e,aO h⟩
theorem Ve {B:Nat} {ev:Nat→Addr} (pb:Nat) (n:Int) (bf bt:Nat) (F T:List (Int×Int)) (k:Int) (w:World) (hE:UA B ev w) (hb:Bud w pb n bf bt F T) (k0:0≤k) (k6:k≤6) (h:nD k F=none):
 Calls prog 162 #[.pointer (some ⟨pb,0,none⟩),.int .i64 k] w fun e w'=>e= .returned (.tuple #[.agg #[.int .i64 0,.int .i64 0],kM ev 5])∧Below w.heap.size w w':=by
 have hB:=hE.size;have hmf: ∀(fn:Fn) (first cap:Array Value) (w:World),(Instr.makeFunc fn first cap).run prog w= .ok (.func fn first cap) w:=fun _ _ _ _=>rfl
 have c1:=hb.c1;have lp:=hb.ltp;have HF:=ah hb.free;have lf:=hb.ltf;have few:=hb.free.few;have fit:=JA h;have FIT:=ah fit;clear hb h fit;go_in
 go_wp2_with (go_at_call 160;refine(Fx _ _ ⟨k0,k6⟩).mono ?_;rintro e w' ⟨rfl,rfl⟩);refine(Bh bf F _ (HF.out.below (n:=w.heap.size) jY lf)).mono ?_;rintro e w1 ⟨v,rfl,hv⟩;have hb1:=hv.2;have z1:=hb1.size;simp at z1;have kc:w1.cell? ⟨w.heap.size,0,none⟩=some (.int .i64 k):=(hb1.cell (p:=⟨w.heap.size,0,none⟩) (by first|omega|(simp;omega)|(simp;done))).trans (by rw[eZ _ _ _ (by first|omega|(simp;omega)|(simp;done)),bE _ _ _ _ sI];rfl);have r0:w1.cell? ⟨w.heap.size+1,0,none⟩=some (.int .i64 0):=(hb1.cell (p:=⟨w.heap.size+1,0,none⟩) (by first|omega|(simp;omega)|(simp;done))).trans (by rw[bE _ _ _ _ sI];rfl);have r1:w1.cell? ⟨w.heap.size+1,1,none⟩=some (.int .i64 0):=(hb1.cell (p:=⟨w.heap.size+1,1,none⟩) sI).trans (by rw[bE _ _ _ _ sI];rfl);have f0:w1.frozen? ⟨w.heap.size+1,0,none⟩=false:=(hb1.frozen (p:=⟨w.heap.size+1,0,none⟩) sI).trans (cZ _ _ _ _ sI);have f1:w1.frozen? ⟨w.heap.size+1,1,none⟩=false:=(hb1.frozen (p:=⟨w.heap.size+1,1,none⟩) sI).trans (cZ _ _ _ _ sI);have hE1:UA B ev w1:=hE.below jY;have K1:Below w.heap.size w w1:=jY;have z5:=hE1.z5;have c5:=hE1.c5;have HE1:=ah hE1;have key:Calls prog 189 #[v,GJ w.heap.size] w1 fun e w'=>∃p c,e= .returned (.slice p 0 c)∧Below (w.heap.size+2) w1 w':=by
  rcases hv.mrow with⟨rfl,hnil⟩|⟨g,cap,rfl,hg0,hg,hcap,hc⟩
  ·exact(delF_nil _ _).mono fun e w' ⟨h1,h2⟩=>⟨_,_,h1,by rw[←h2];exact aL _ _⟩
  ·have hg1:w.heap.size+2≤g:=by simpa using hg0
   have hcl:w.heap.size<w1.heap.size:=om;have hcg:w.heap.size≠g:=om;refine(PS g cap w.heap.size k F w1 hc hg few hcap kc hcl hcg).mono fun e w' ⟨h1,_,h3⟩=> ?_
   rw[FIT.out] at h1;exact⟨_,_,h1,h3.below om (fun s hs=>by rw[bL.1 hs];exact hg1)⟩
 have KEY:=ah key;clear key hv;unfold GJ at KEY;go_wp2_with fail;refine KEY.out.mono ?_;rintro e w2 ⟨p,c,rfl,hb2⟩;have z2:=hb2.size;have c5':w2.cell? ⟨4,0,none⟩=some (kM ev 5):=(hb2.cell (p:=⟨4,0,none⟩) (show 4<w.heap.size+2 by have:=hE.z5;omega)).trans c5;have r0':w2.cell? ⟨w.heap.size+1,0,none⟩=some (.int .i64 0):=(hb2.cell (p:=⟨w.heap.size+1,0,none⟩) sI).trans r0;have r1':w2.cell? ⟨w.heap.size+1,1,none⟩=some (.int .i64 0):=(hb2.cell (p:=⟨w.heap.size+1,1,none⟩) sI).trans r1;have f0':w2.frozen? ⟨w.heap.size+1,0,none⟩=false:=(hb2.frozen (p:=⟨w.heap.size+1,0,none⟩) sI).trans f0;have f1':w2.frozen? ⟨w.heap.size+1,1,none⟩=false:=(hb2.frozen (p:=⟨w.heap.size+1,1,none⟩) sI).trans f1;clear c5 r0 r1 f0 f1 kc;have z5':=hE.z5;have ne5: ¬(w.heap.size+1=4):=om;have ne5': ¬(4=w.heap.size+1):=om;go_wp2;go_region
 all_goals go_wp2
 all_goals
  have e0:=kZ (.int .i64 0) r0';have e1:=kZ (w:=w2.setCell ⟨w.heap.size+1,0,none⟩ (.int .i64 0)) (.int .i64 0) ((kH _ om).trans r1');have e2:=(kH (w:=w2.setCell ⟨w.heap.size+1,0,none⟩ (.int .i64 0)) (g:=w.heap.size+1) (o:=1) (o':=0) (.int .i64 0) om).trans e0;exact bodyPost_ret (v:=.tuple #[.agg #[.int .i64 0,.int .i64 0],kM ev 5]) (by simp[e0,e1,e2,results,Tryz.results162,go_sem]) rfl ⟨rfl,jY⟩
structure xO (w:World) (b:Nat) (a m:Int):Prop where
 lt:b<w.heap.size
 c0:w.cell? ⟨b,0,none⟩=some (.int .i64 a)
 c1:w.cell? ⟨b,1,none⟩=some (.int .i64 m)
 f0:w.frozen? ⟨b,0,none⟩=false
 f1:w.frozen? ⟨b,1,none⟩=false
theorem xO.keep {S:List Nat} {w w':World} {b:Nat} {a m:Int} (h:xO w b a m) (k:Keep S w w') (hb:b∉S):xO w' b a m:=
 ⟨aC h.lt k.size,(k.cell h.lt hb).trans h.c0,(k.cell h.lt hb).trans h.c1,(k.frozen h.lt hb).trans h.f0,(k.frozen h.lt hb).trans h.f1⟩
theorem xO.below {w w':World} {b:Nat} {a m:Int} (h:xO w b a m) {n:Nat} (k:Below n w w') (hb:b<n):xO w' b a m:=
 ⟨aC h.lt k.size,(k.cell (p:=⟨b,0,none⟩) hb).trans h.c0,(k.cell (p:=⟨b,1,none⟩) hb).trans h.c1,(k.frozen (p:=⟨b,0,none⟩) hb).trans h.f0,(k.frozen (p:=⟨b,1,none⟩) hb).trans h.f1⟩
theorem xO.new (w:World) (a m:Int) (t:TypeId):xO (w.alloc (.cells #[.int .i64 a,.int .i64 m] t)) w.heap.size a m:=
 ⟨sI,by rw[bE _ _ _ _ sI];rfl,by rw[bE _ _ _ _ sI];rfl,cZ _ _ _ _ sI,cZ _ _ _ _ sI⟩
theorem xO.store {w:World} {b:Nat} {a m:Int} (h:xO w b a m) (a' m':Int):xO ((w.setCell ⟨b,0,none⟩ (.int .i64 a')).setCell ⟨b,1,none⟩ (.int .i64 m')) b a' m':=by
 have e0:=kZ (.int .i64 a') h.c0;exact⟨by simpa[World.setCell] using h.lt,(kH (.int .i64 m') om).trans e0,kZ _ ((kH _ om).trans h.c1),by rw[kX,kX];exact h.f0,by rw[kX,kX];exact h.f1⟩
theorem Keep.lq {S:List Nat} {w0 w:World} {b:Nat} (h:Keep S w0 w) (hb:b∈S∨w0.heap.size≤b) (u v:Value):Keep S w0 ((w.setCell ⟨b,0,none⟩ u).setCell ⟨b,1,none⟩ v):=(h.setCell (p:=⟨b,0,none⟩) hb u).setCell (p:=⟨b,1,none⟩) hb v
theorem SE {k m:Int} {a:Int} {F:List (Int×Int)} (h:k<m):uU (m-k).toNat a k F=uU (m-1-k).toNat a k (rC (a+sz (m-1)) (m-1) F):=by
 obtain⟨d,hd⟩: ∃d,(m-k).toNat=d+1:=⟨(m-k).toNat-1,om⟩;have e1:(m-1-k).toNat=d:=om;have e2:k+(d:Int)=m-1:=om;rw[hd,e1,uU,e2]
theorem wF.down0 {n:Int} {F T:List (Int×Int)} {a k:Int} (h:wF n F T (a,k)):S9 a k=0↔k≠0:=by
 obtain⟨b0,b1,b2,b3⟩:=h.blk;have bn:=h.t.bound (aG ..);have:=qh k;have:=h.n2;simp only at b0 b1 b2 b3 bn;have ha:rP a k=0:=Uv b0 om b1 b2 b3;exact⟨fun q=>(DU q).2,fun q=>downE_mk ha q⟩
theorem take_ok {B:Nat} {ev:Nat→Addr} (pb:Nat) (n:Int) (bf bt:Nat) (F T:List (Int×Int)) (k:Int) (x:Int×Int) (w:World) (hE:Ap B ev w) (hBf:B≤bf) (hb:Bud w pb n bf bt F T) (hI:Inv n F T) (k0:0≤k) (k6:k≤6) (h:nD k F=some x):
 Calls prog 162 #[.pointer (some ⟨pb,0,none⟩),.int .i64 k] w fun e w'=>e= .returned (.tuple #[.agg #[.int .i64 x.1,.int .i64 k],.nilIface])∧Bud w' pb n bf bt (uz k x F) (rC x.1 k T)∧Keep [bf,bt] w w':=by
 have hB:=hE.size;have hmf: ∀(fn:Fn) (first cap:Array Value) (w:World),(Instr.makeFunc fn first cap).run prog w= .ok (.func fn first cap) w:=fun _ _ _ _=>rfl
 have c1:=hb.c1;have lp:=hb.ltp;have lf:=hb.ltf;have lt:=hb.ltt;have few:=hb.free.few;obtain⟨y,r,hfit,hmin⟩:=H8 h;obtain⟨hxF,hkx⟩:=oG h;have hIH:=hI.hand hxF;have hfin:=hI.take k0 h;have hrx:=hI.rngF hxF;have FIT:=ah hfit;have MIN:=ah hmin;have IH:=ah hIH;have HB:=ah hb;have HI:=ah hI;have FIN:=ah hfin;have XF:=ah hxF;have hfl:(Df k F).length≤256:=bW (List.length_filter_le _ _) few;rw[hfit] at hfl;clear hb h hfit hmin hIH hfin hI hxF;go_in
 go_wp2_with (go_at_call 160;refine(Fx _ _ ⟨k0,k6⟩).mono ?_;rintro e w' ⟨rfl,rfl⟩);refine(Bh bf F _ (HB.out.free.below (n:=w.heap.size) jY lf)).mono ?_;rintro e w1 ⟨v,rfl,hv⟩;have hb1:=hv.2;have z1:=hb1.size;simp at z1;have kc:w1.cell? ⟨w.heap.size,0,none⟩=some (.int .i64 k):=(hb1.cell (p:=⟨w.heap.size,0,none⟩) (by first|omega|(simp;omega)|(simp;done))).trans (by rw[eZ _ _ _ (by first|omega|(simp;omega)|(simp;done)),bE _ _ _ _ sI];rfl);have r0:w1.cell? ⟨w.heap.size+1,0,none⟩=some (.int .i64 0):=(hb1.cell (p:=⟨w.heap.size+1,0,none⟩) (by first|omega|(simp;omega)|(simp;done))).trans (by rw[bE _ _ _ _ sI];rfl);have r1:w1.cell? ⟨w.heap.size+1,1,none⟩=some (.int .i64 0):=(hb1.cell (p:=⟨w.heap.size+1,1,none⟩) (by first|omega|(simp;omega)|(simp;done))).trans (by rw[bE _ _ _ _ sI];rfl);have f0:w1.frozen? ⟨w.heap.size+1,0,none⟩=false:=(hb1.frozen (p:=⟨w.heap.size+1,0,none⟩) sI).trans (cZ _ _ _ _ sI);have f1:w1.frozen? ⟨w.heap.size+1,1,none⟩=false:=(hb1.frozen (p:=⟨w.heap.size+1,1,none⟩) sI).trans (cZ _ _ _ _ sI);have K1:Keep [] w w1:=Keep.of (jY);have key: ∃g cap,w.heap.size+2≤g∧Calls prog 189 #[v,GJ w.heap.size] w1 fun e w'=>e= .returned (.slice (some ⟨g,0,none⟩) (y::r).length cap)∧Bg w' g (y::r)∧Keep [g] w1 w'∧g<w'.heap.size:=by
  rcases hv.mrow with⟨rfl,hnil⟩|⟨g,cap,rfl,hg0,hg,hcap,hc⟩
  ·have:=XF.out
   rw[hnil] at this;cases this
  ·have hg1:w.heap.size+2≤g:=by simpa using hg0
   have hcl:w.heap.size<w1.heap.size:=om;have hcg:w.heap.size≠g:=om;refine⟨g,cap,hg1,(PS g cap w.heap.size k F w1 hc hg few hcap kc hcl hcg).mono fun e w' ⟨h1,h2,h3⟩=> ?_⟩;rw[FIT.out] at h1 h2;exact⟨h1,h2,h3,by have:=h3.size;omega⟩
 obtain⟨g,cap,hg,key⟩:=key;have KEY:=ah key;clear key hv XF FIT;unfold GJ at KEY;obtain⟨m,hm⟩:=eY ((y::r).length);have hm1:1≤m:=by rw[hm];simp
 rw[←hm] at KEY hfl;have hm0:((m:Int)==0)=false:=beq_eq_false_iff_ne.2 om;have HM:=ah hm;clear hm;go_wp2_with fail;refine KEY.out.mono ?_;rintro e w2 ⟨rfl,row2,hk2,hg2⟩;have z2:=hk2.size;have r0':=(hk2.cell (b:=w.heap.size+1) (o:=0) (by first|omega|(simp;omega)|(simp;done)) (by simp;omega)).trans r0;have r1':=(hk2.cell (b:=w.heap.size+1) (o:=1) (by first|omega|(simp;omega)|(simp;done)) (by simp;omega)).trans r1;have f0':=(hk2.frozen (b:=w.heap.size+1) (o:=0) (by first|omega|(simp;omega)|(simp;done)) (by simp;omega)).trans f0;have f1':=(hk2.frozen (b:=w.heap.size+1) (o:=1) (by first|omega|(simp;omega)|(simp;done)) (by simp;omega)).trans f1;have kc':=(hk2.cell (b:=w.heap.size) (o:=0) (by first|omega|(simp;omega)|(simp;done)) (by simp;omega)).trans kc;have K2:Keep [] w w2:=K1.trans hk2 (fun s hs=>.inr (by rw[bL.1 hs];omega));have MF:=ah (minF_any g cap y r w2 row2 hg2 (by rw[←HM.out];exact hfl));rw[←HM.out,MIN.out] at MF;clear kc r0 r1 f0 f1 hk2 row2;go_wp2_with fail;refine MF.out.mono ?_;rintro e w3 ⟨rfl,hb3⟩;clear MF hm0;have z3:=hb3.size;have K3:Keep [] w w3:=K2.step hb3;have r0:=(hb3.cell (p:=⟨w.heap.size+1,0,none⟩) (by first|omega|(simp;omega)|(simp;done))).trans r0';have r1:=(hb3.cell (p:=⟨w.heap.size+1,1,none⟩) (by first|omega|(simp;omega)|(simp;done))).trans r1';have f0:=(hb3.frozen (p:=⟨w.heap.size+1,0,none⟩) (by first|omega|(simp;omega)|(simp;done))).trans f0';have f1:=(hb3.frozen (p:=⟨w.heap.size+1,1,none⟩) (by first|omega|(simp;omega)|(simp;done))).trans f1';have kc:=(hb3.cell (p:=⟨w.heap.size,0,none⟩) (by first|omega|(simp;omega)|(simp;done))).trans kc'
 clear r0' r1' f0' f1' kc';obtain⟨a,m0⟩:=x;simp only at hrx hkx;have L1:xO w3 (w.heap.size+1) 0 0:=⟨om,r0,r1,f0,f1⟩;have HL1:=ah L1;have lp3:pb<w3.heap.size:=om;have c1':=(K3.cell (o:=1) lp sI).trans c1;have ka:Keep [] w3 ((w3.alloc (.cells #[.int .i64 a,.int .i64 m0] 213)).drew):=((Keep.refl _ _).alloc _).drew;have M3:Dh ((w3.alloc (.cells #[.int .i64 a,.int .i64 m0] 213)).drew) bf F:=(HB.out.free.keep K3 sI).keep ka sI;obtain⟨w4,hrun,hdrop,hturn⟩:=M3.drop (a:=a) (wfInt hrx.1 hrx.2.1) 0;have ne3:bf≠w3.heap.size:=om;have ne1:bf≠w.heap.size:=om;have ne2:bf≠w.heap.size+1:=om;have k34:Keep [bf] w3 w4:=(ka.mono (fun s q=>by cases q)).grown hturn.grown (.inl sI);have kb4:Keep [bf] ((w3.alloc (.cells #[.int .i64 a,.int .i64 m0] 213)).drew) w4:=(Keep.refl _ _).grown hturn.grown (.inl sI);have D:=ah hdrop;have X4:=ah (((xO.new w3 a m0 213).keep (Keep.drew (Keep.refl [] _)) sI).keep kb4 (by simpa using ne3.symm));have R4:=ah (L1.keep k34 (by simpa using ne2.symm));have O4:=ah ((k34.cell (b:=w.heap.size) (o:=0) om (by simpa using ne1.symm)).trans kc);have B4:=ah ((HB.out.keep K3 sI sI sI).turnF hdrop k34);have K4:Keep [bf] w w4:=(K3.mono (fun s q=>by cases q)).then k34;clear hdrop hturn L1 r0 r1 f0 f1 kb4 M3 ka;go_wp2_with fail;refine lJ 6 kR kR ?_;simp only[aQ,aV,aP,aU];repeat still_step
 refine wpStill_nil ?_;go_wp2;clear hrun kc c1' c1;have z4:=k34.size;have IH4:=ah (show wF n (tZ a F) T (a,m0) from IH.out);have DF4:=ah (show uU (m0-k).toNat a k (tZ a F)=uz k (a,m0) F from rfl);clear IH k34 HL1;go_loopg [10,11,12] 7 (fun gg _ _ _ wr=>∃(q:Int) (F':List (Int×Int)),(q-k).toNat<gg∧k≤q∧q≤6∧Hid (Bud wr pb n bf bt F' T)∧Hid (wF n F' T (a,q))∧Hid (uU (q-k).toNat a k F'=uz k (a,m0) F)∧Hid (xO wr w3.heap.size a q)∧Hid (xO wr (w.heap.size+1) 0 0)
  ∧Hid (wr.cell? ⟨w.heap.size,0,none⟩=some (.int .i64 k))∧Keep [bf] w wr∧w3.heap.size<wr.heap.size)
 case atStart=>exact⟨m0,tZ a F,om,hkx,om,B4,IH4,DF4,X4,R4,O4,K4,X4.out.lt⟩
 case round=>
  obtain⟨q,F',hgg,hkq,hq6,HBr,IHr,DFr,Xr,Rr,Or,Kr,zr⟩:=hrel;clear B4 IH4 DF4 X4 R4 O4 K4;have x0:=Xr.out.c0;have x1:=Xr.out.c1;have o0:=Or.out;by_cases hlt:k<q
  ·have hcut:=wF.cut (n:=n) (F:=F') (T:=T) (a:=a) (k:=q-1) om (by rw[show q-1+1=q by omega];exact IHr.out)
   have hdn:=(wF.down0 IHr.out).2 om;have hEr:Ap B ev wr:=hE.below (Kr.below (B:=B) om (fun s hs=>by rw[bL.1 hs];exact hBf));have hrg:=hcut.rng (p:=(a+sz (q-1),q-1)) (ak _ (av _ ((Fu IHr.out.fa).2 (.inl rfl))));have hln:=tN hcut.fa (fun p hp=>hcut.rng (ak _ (av _ hp)));have CUT:=ah hcut;have HO:=ah (UC a q wr hEr hdn);clear hcut hdn hEr;go_wp2_with fail;refine HO.out.mono ?_;rintro e w5 ⟨rfl,hb5⟩;clear HO;have z5:=hb5.size;have q1:=(hb5.cell (p:=⟨pb,1,none⟩) (show pb<wr.heap.size by omega)).trans HBr.out.c1;have lp5:pb<w5.heap.size:=om;have ka:Keep [] w5 (((w5.alloc (.cells #[.int .i64 a,.int .i64 (q-1)] 213)).alloc (.cells #[.int .i64 (a+sz (q-1)),.int .i64 (q-1)] 213)).drew):=(((Keep.refl _ _).alloc _).alloc _).drew;have kr5:Keep [] wr w5:=Keep.of hb5;have B5:=HBr.out.keep kr5 sI sI sI;obtain⟨w7,hrun,hput,hgr⟩:=(B5.free.keep ka sI).put hrg hln;have k57:Keep [bf] w5 w7:=(ka.mono (fun s q=>by cases q)).grown hgr (.inl sI);have z7:=k57.size;have kl:Keep [bf] (((w5.alloc (.cells #[.int .i64 a,.int .i64 (q-1)] 213)).alloc (.cells #[.int .i64 (a+sz (q-1)),.int .i64 (q-1)] 213)).drew) w7:=(Keep.refl _ _).grown hgr (.inl sI);have nl:w5.heap.size≠bf:=om;have LO:=((xO.new w5 a (q-1) 213).keep (((Keep.refl [] _).alloc (.cells #[.int .i64 (a+sz (q-1)),.int .i64 (q-1)] 213)).drew) sI).keep kl (by simpa using nl);have l0:=LO.c0;have l1:=LO.c1;have kr7:Keep [bf] wr w7:=(kr5.mono (fun s q=>by cases q)).then k57;have X7:=Xr.out.keep kr7 (by simpa using ne3.symm);have R7:=Rr.out.keep kr7 (by simpa using ne2.symm)
   have x2:=X7.c0;have x3:=X7.c1;have x4:=X7.f0;have x5:=X7.f1;have B7:=B5.turnF hput k57;have O7:=(kr7.cell (b:=w.heap.size) (o:=0) om (by simpa using ne1.symm)).trans o0;have np:pb≠w3.heap.size:=om;have nt':bt≠w3.heap.size:=om;have nw1:w.heap.size≠w3.heap.size:=om;have nw2:w.heap.size+1≠w3.heap.size:=om;have ks:Keep [w3.heap.size] w7 ((w7.setCell ⟨w3.heap.size,0,none⟩ (.int .i64 a)).setCell ⟨w3.heap.size,1,none⟩ (.int .i64 (q-1))):=(Keep.refl _ _).lq (.inl sI) _ _;have B8:=ah (B7.keep ks (by simpa using np) (by simpa using ne3) (by simpa using nt'));have X8:=ah (X7.store a (q-1));have R8:=ah (R7.keep ks (by simpa using nw2));have O8:=ah ((ks.cell (b:=w.heap.size) (o:=0) om (by simpa using nw1)).trans O7);have K8:=ah ((Kr.then kr7).lq (b:=w3.heap.size) (.inr om) (.int .i64 a) (.int .i64 (q-1)));clear hput hgr ka kr5 B5 k57 kl LO kr7 X7 R7 B7 O7 ks o0 x0 x1 hrg hln;go_wp2_with fail;refine lJ 8 kR kR ?_;simp only[aQ,aV,aP,aU];repeat still_step
   refine wpStill_nil ?_;go_wp2;go_roundg ((q-1-k).toNat+1)
   case measure=>omega
   case rel=>exact⟨q-1,_,om,om,om,B8,CUT,by rw[←DFr.out,SE hlt];rfl,X8,R8,O8,K8.out,by simp[World.setCell];omega⟩
  ·have eq:q=k:=by omega
   subst eq;have hput:=IHr.out;have e0:(q-q).toNat=0:=om;have hF:F'=uz q (a,m0) F:=by have:=DFr.out;rwa [e0] at this
   have br:=HBr.out;have c2:=br.c2;have lpr:pb<wr.heap.size:=om;have ka:Keep [] wr wr.drew:=(Keep.refl _ _).drew;have hrg:=hput.rng (p:=(a,q)) (aG ..);have hln:=tN hput.putT.ta (fun p hp=>hput.putT.rngT hp);obtain⟨w7,hrun,hpt,hgr⟩:=(br.taken.keep ka sI).put hrg hln;have k7:Keep [bt] wr w7:=(ka.mono (fun s q=>by cases q)).grown hgr (.inl sI);have nt1:w3.heap.size≠bt:=om;have nt2:w.heap.size+1≠bt:=om;have X7:=Xr.out.keep k7 (by simpa using nt1);have R7:=Rr.out.keep k7 (by simpa using nt2);have x2:=X7.c0;have x3:=X7.c1;have y0:=R7.c0;have y1:=R7.c1;have y2:=R7.f0;have y3:=R7.f1;have B7:=br.turnT hpt k7;have K7:Keep [bf,bt] w w7:=(Kr.mono (fun s hs=>by simp at hs ⊢;exact .inl hs)).then (k7.mono (fun s hs=>by simp at hs ⊢;exact .inr hs));have np:pb≠w.heap.size+1:=om;have nf:bf≠w.heap.size+1:=om;have nt':bt≠w.heap.size+1:=om;have ks:Keep [w.heap.size+1] w7 ((w7.setCell ⟨w.heap.size+1,0,none⟩ (.int .i64 a)).setCell ⟨w.heap.size+1,1,none⟩ (.int .i64 q)):=(Keep.refl _ _).lq (.inl sI) _ _;have B8:=B7.keep ks (by simpa using np) (by simpa using nf) (by simpa using nt');rw[hF] at B8;have HB8:=ah B8;have R8:=R7.store a q;have rc0:=R8.c0;have rc1:=R8.c1;have K8:=ah (K7.lq (b:=w.heap.size+1) (.inr om) (.int .i64 a) (.int .i64 q));have RR:=ah R8;clear hput hF br hrg hln hpt hgr k7 X7 R7 B7 K7 ks B8 ka R8;have hnlt: ¬q<q:=om;go_wp2_with fail;refine lJ 8 kR kR ?_;simp only[aQ,aV,aP,aU];repeat still_step
   refine wpStill_nil ?_;go_wp2;have e0:=kZ (.int .i64 a) y0;exact bodyPost_ret (v:=.tuple #[.agg #[.int .i64 a,.int .i64 q],.nilIface]) (by simp[e0,rc0,rc1,results,Tryz.results162,go_sem]) rfl ⟨rfl,HB8.out,K8.out⟩
def upP (a k:Int) (F:List (Int×Int)):List (Int×Int):=rC (upF (6-k).toNat a k F).1.1 (upF (6-k).toNat a k F).1.2 (upF (6-k).toNat a k F).2
def ptrs (L:List Nd):List Value:=L.map fun x=>.pointer (some ⟨x.pb,0,none⟩)
theorem yc (L:List Nd):(ptrs L).length=L.length:=by simp[ptrs]
theorem Q7 {L:List Nd} {j:Nat} {x:Nd} (h:L[j]?=some x):(ptrs L)[j]?=some (.pointer (some ⟨x.pb,0,none⟩)):=by simp[ptrs,h]
theorem Vf (L:List Nd) (x:Nd):ptrs (L++[x])=ptrs L++[.pointer (some ⟨x.pb,0,none⟩)]:=by simp[ptrs]
theorem elNode:El 176 179 (.pointer none) 8:=⟨Tryz.underlying176,kR,rfl,om⟩
structure Jd (B:Nat) (w:World) (L:List Nd):Prop where
 bud: ∀x∈L,Bud w x.pb x.n x.bf x.bt x.F x.T∧Inv x.n x.F x.T
 nd:(ys L).Nodup
 out: ∀x∈L,x.pb∉ys L
 lim: ∀y∈ys L,B≤y∧y<w.heap.size
theorem Jd.keep {B:Nat} {S:List Nat} {w w':World} {L:List Nd} (h:Jd B w L) (k:Keep S w w') (hs: ∀x∈L,x.pb∉S∧x.bf∉S∧x.bt∉S):Jd B w' L:=
 ⟨fun x hx=>⟨(h.bud x hx).1.keep k (hs x hx).1 (hs x hx).2.1 (hs x hx).2.2,(h.bud x hx).2⟩,h.nd,h.out,fun y hy=>⟨(h.lim y hy).1,aC (h.lim y hy).2 k.size⟩⟩
theorem Jd.below {B:Nat} {w w':World} {L:List Nd} (h:Jd B w L) (k:Below w.heap.size w w'):Jd B w' L:=h.keep (Keep.of (S:=[]) k) (fun x _=>⟨sI,sI,sI⟩)
theorem Jd.snoc {B:Nat} {w w':World} {L:List Nd} (h:Jd B w L) (k:Below w.heap.size w w') (x:Nd) (hb:Bud w' x.pb x.n x.bf x.bt x.F x.T) (hi:Inv x.n x.F x.T) (hB:B≤w.heap.size) (h1:w.heap.size≤x.pb) (h2:w.heap.size≤x.bf) (h3:w.heap.size≤x.bt):Jd B w' (L++[x]):=by
 have h':=h.below k;have e:=hb.ne;refine⟨fun y hy=> ?_,?_,fun y hy=> ?_,fun y hy=> ?_⟩
 ·rcases aD.1 hy with q|q
  ·exact h'.bud y q
  ·simp at q;subst q;exact⟨hb,hi⟩
 ·rw[Bv]
  refine bF.2 ⟨h.nd,by simp;exact e.1,fun a ha b hb=> ?_⟩;have:=(h.lim a ha).2;simp at hb;rcases hb with rfl|rfl<;>omega
 ·rw[Bv]
  intro q;rcases aD.1 hy with p|p
  ·have l1:=(h.bud y p).1.ltp
   rcases aD.1 q with q|q
   ·exact h.out y p q
   ·simp at q;rcases q with q|q<;>omega
  ·simp at p;subst p
   rcases aD.1 q with q|q
   ·have:=(h.lim _ q).2;omega
   ·simp at q;rcases q with q|q
    ·exact e.2.1 q
    ·exact e.2.2 q
 ·rw[Bv] at hy
  rcases aD.1 hy with q|q
  ·exact h'.lim y q
  ·simp at q
   rcases q with rfl|rfl
   ·exact⟨om,hb.ltf⟩
   ·exact⟨om,hb.ltt⟩
theorem Jd.act {B:Nat} {w w':World} {L:List Nd} (h:Jd B w L) {i:Nat} {x:Nd} (hx:L[i]?=some x) {F T:List (Int×Int)} (hb:Bud w' x.pb x.n x.bf x.bt F T) (hi:Inv x.n F T) (k:Keep [x.bf,x.bt] w w'):
 Jd B w' (L.set i ⟨x.pb,x.bf,x.bt,x.n,F,T⟩)∧ys (L.set i ⟨x.pb,x.bf,x.bt,x.n,F,T⟩)=ys L∧ptrs (L.set i ⟨x.pb,x.bf,x.bt,x.n,F,T⟩)=ptrs L:=by
 have hil:=(au.1 hx).1;have hxe:=(au.1 hx).2;have split:L=L.take i++x::L.drop (i+1):=by
  conv=>lhs;rw[←bX i L]
  rw[dY hil,hxe]
 have setE:L.set i ⟨x.pb,x.bf,x.bt,x.n,F,T⟩=L.take i++⟨x.pb,x.bf,x.bt,x.n,F,T⟩::L.drop (i+1):=by
  rw[List.set_eq_take_append_cons_drop,if_pos hil]
 have ey:ys (L.set i ⟨x.pb,x.bf,x.bt,x.n,F,T⟩)=ys L:=by
  rw[setE];conv=>rhs;rw[split]
  simp[ys]
 have ep:ptrs (L.set i ⟨x.pb,x.bf,x.bt,x.n,F,T⟩)=ptrs L:=by
  rw[setE];conv=>rhs;rw[split]
  simp[ptrs]
 have mem: ∀z∈L.set i ⟨x.pb,x.bf,x.bt,x.n,F,T⟩,z=⟨x.pb,x.bf,x.bt,x.n,F,T⟩∨(z∈L∧z.bf≠x.bf∧z.bf≠x.bt∧z.bt≠x.bf∧z.bt≠x.bt):=by
  intro z hz;rw[setE] at hz;have nd:=h.nd;rw[split] at nd;simp only[ys,List.flatMap_append,dL] at nd;obtain⟨n1,n2,n3⟩:=bF.1 nd;obtain⟨m1,m2,m3⟩:=bF.1 n2;rcases aD.1 hz with q|q
  ·right
   refine⟨fD q,?_⟩;have zb:z.bf∈(L.take i).flatMap fun x=>[x.bf,x.bt]:=eB.2 ⟨z,q,sI⟩
   have zt:z.bt∈(L.take i).flatMap fun x=>[x.bf,x.bt]:=eB.2 ⟨z,q,sI⟩
   exact⟨n3 _ zb _ sI,n3 _ zb _ sI,n3 _ zt _ sI,n3 _ zt _ sI⟩
  ·rcases aB.1 q with q|q
   ·exact .inl q
   ·right
    refine⟨fV q,?_⟩;have zb:z.bf∈(L.drop (i+1)).flatMap fun x=>[x.bf,x.bt]:=eB.2 ⟨z,q,sI⟩
    have zt:z.bt∈(L.drop (i+1)).flatMap fun x=>[x.bf,x.bt]:=eB.2 ⟨z,q,sI⟩
    exact⟨fun e=>m3 _ sI _ zb e.symm,fun e=>m3 _ sI _ zb e.symm,fun e=>m3 _ sI _ zt e.symm,fun e=>m3 _ sI _ zt e.symm⟩
 have hxm:x∈L:=aF hx;have o1: ∀z∈L,z.pb≠x.bf∧z.pb≠x.bt:=fun z hz=>⟨fun e=>h.out z hz (vY.2 ⟨x,hxm,.inl e⟩),fun e=>h.out z hz (vY.2 ⟨x,hxm,.inr e⟩)⟩
 refine⟨⟨fun z hz=> ?_,by rw[ey];exact h.nd,fun z hz=> ?_,fun y hy=> ?_⟩,ey,ep⟩
 ·rcases mem z hz with rfl|⟨q,q1,q2,q3,q4⟩
  ·exact⟨hb,hi⟩
  ·exact⟨(h.bud z q).1.keep k (by simp;exact o1 z q) (by simp;exact⟨q1,q2⟩) (by simp;exact⟨q3,q4⟩),(h.bud z q).2⟩
 ·rw[ey]
  rcases mem z hz with rfl|⟨q,_⟩
  ·exact h.out x hxm
  ·exact h.out z q
 ·rw[ey] at hy
  exact⟨(h.lim y hy).1,aC (h.lim y hy).2 k.size⟩
structure pR (B:Nat) (w:World) (pz:Nat) (mn lw hi:Int) (O:List (List Int)) (L:List Nd):Prop where
 z: ∃qn kn qo ko,jR w pz [.slice none 0 0,.slice none 0 0,.int .i64 mn,.int .i64 lw,.int .i64 hi,.slice qn L.length kn,.slice qo L.length ko]∧nO (ys L) w (.slice qn L.length kn) (ptrs L)∧CZ (ys L) w (.slice qo L.length ko) O
 b:Jd B w L
 out:pz∉ys L
 ord:rM O L.length
 m0:0≤mn∧mn≤lw∧lw≤hi∧hi≤9223372036854775807
theorem pR.below {B:Nat} {w w':World} {pz:Nat} {mn lw hi:Int} {O:List (List Int)} {L:List Nd} (h:pR B w pz mn lw hi O L) (k:Below w.heap.size w w'):pR B w' pz mn lw hi O L:=by
 obtain⟨qn,kn,qo,ko,h1,h2,h3⟩:=h.z;exact⟨⟨qn,kn,qo,ko,h1.go k,h2.below k,h3.below k⟩,h.b.below k,h.out,h.ord,h.m0⟩
theorem pR.keep {B:Nat} {S:List Nat} {w w':World} {pz:Nat} {mn lw hi:Int} {O:List (List Int)} {L:List Nd} (h:pR B w pz mn lw hi O L) {i:Nat} {x:Nd} (hx:L[i]?=some x) {F T:List (Int×Int)} (hb:Bud w' x.pb x.n x.bf x.bt F T) (hv:Inv x.n F T) (k:Keep [x.bf,x.bt] w w'):
 pR B w' pz mn lw hi O (L.set i ⟨x.pb,x.bf,x.bt,x.n,F,T⟩)∧Keep (ys L) w w':=by
 obtain⟨qn,kn,qo,ko,h1,h2,h3⟩:=h.z;obtain⟨b1,b2,b3⟩:=h.b.act hx hb hv k;have hxm:=aF hx;have hS: ∀s∈[x.bf,x.bt],s∈ys L:=fun s hs=>by
  simp at hs;exact vY.2 ⟨x,hxm,hs⟩
 have kY:Keep (ys L) w w':=k.mono hS;refine⟨⟨⟨qn,kn,qo,ko,?_,?_,?_⟩,b1,by rw[b2];exact h.out,by simpa using h.ord,h.m0⟩,kY⟩
 ·rw[cu];exact h1.keep kY h.out
 ·rw[cu,b2,b3];exact h2.keep kY (fun s hs=>.inl hs)
 ·rw[cu,b2];exact h3.keep kY (fun s hs=>.inl hs)
theorem pR.open {B:Nat} {w:World} {pz:Nat} {mn lw hi:Int} {O:List (List Int)} {L:List Nd} (h:pR B w pz mn lw hi O L) (hL:0<L.length):
 ∃g off kn qo ko,jR w pz [.slice none 0 0,.slice none 0 0,.int .i64 mn,.int .i64 lw,.int .i64 hi,.slice (some ⟨g,off,none⟩) L.length kn,.slice qo L.length ko]∧g∉ys L∧g<w.heap.size∧L.length≤kn∧kn≤maxLen∧
  (∀j y,L[j]?=some y→w.cell? ⟨g,off+j,none⟩=some (.pointer (some ⟨y.pb,0,none⟩)))∧CZ (ys L) w (.slice qo L.length ko) O:=by
 obtain⟨qn,kn,qo,ko,h1,h2,h3⟩:=h.z;obtain⟨p,cap,e,hc1,hc2,hc⟩:=h2;rw[yc] at e hc1;injection e with e1 e2 e3;subst e1 e3;obtain⟨x,hx⟩: ∃x,L[0]?=some x:=⟨L[0],aA hL⟩;obtain⟨g,off,rfl,hg,hgl,_⟩:=hc 0 _ (Q7 hx);refine⟨g,off,kn,qo,ko,h1,hg,hgl,hc1,hc2,fun j y hj=> ?_,h3⟩;obtain⟨g',off',e,_,_,q⟩:=hc j _ (Q7 hj);injection e with e;injection e with ea eb;subst ea eb;exact q
theorem JB {B:Nat} (pz:Nat) (mn lw hi:Int) (O:List (List Int)) (L:List Nd) (v:Nat) (w:World) (h:pR B w pz mn lw hi O L) (hv:v<L.length):
 Calls prog 133 #[.pointer (some ⟨pz,0,none⟩),.int .i64 v] w fun e w'=>e= .returned .nilIface∧Below w.heap.size w w':=by
 obtain⟨g,off,kn,qo,ko,hz,_,_,hk1,hk2,_,_⟩:=h.open om;have c5:=hz.gC 5;have cl:=hz.lt;unfold maxLen at hk2;have v0:decide ((v:Int)<0)=false:=dQf om;have v1:decide (L.length≤v)=false:=dQf om;clear h hz;go_in
 go_wp2;go_ret;exact⟨rfl,jY⟩
theorem Q8 {B:Nat} {ev:Nat→Addr} (pz:Nat) (mn lw hi:Int) (O:List (List Int)) (L:List Nd) (v:Int) (w:World) (hE:Ap B ev w) (h:pR B w pz mn lw hi O L) (hL:0<L.length) (hv:v<0∨(L.length:Int)≤v):
 Calls prog 133 #[.pointer (some ⟨pz,0,none⟩),.int .i64 v] w fun e w'=>e= .returned (kM ev 2)∧Below w.heap.size w w':=by
 obtain⟨g,off,kn,qo,ko,hz,_,_,hk1,hk2,_,_⟩:=h.open hL;have c5:=hz.gC 5;have cl:=hz.lt;unfold maxLen at hk2;have r2:=hE.c2;have e1:kM ev 2= .iface 336 (.pointer (some (ev 2))):=rfl;rw[e1];clear h hz hE e1;by_cases v0:v<0
 ·have v0':decide (v<0)=true:=dQt v0
  clear v0 hv;go_in
  go_wp2;go_ret;exact⟨rfl,jY⟩
 ·have v1:decide (v<0)=false:=dQf v0
  have v2:decide ((L.length:Int)≤v)=true:=dQt om;clear v0 hv;go_in
  go_wp2;go_ret;exact⟨rfl,jY⟩
theorem may_any {B:Nat} (pz:Nat) (mn lw hi:Int) (O:List (List Int)) (L:List Nd) (v:Nat) (x:Nd) (k:Int) (u:Bool) (w:World) (h:pR B w pz mn lw hi O L) (hx:L[v]?=some x) (k0:0≤k) (k6:k≤6):
 Calls prog 161 #[.pointer (some ⟨pz,0,none⟩),.int .i64 v,.int .i64 k,.bool u] w fun e w'=>e= .returned (.bool (mayN mn k u x))∧Below w.heap.size w w':=by
 have hl:=(au.1 hx).1;obtain⟨g,off,kn,qo,ko,hz,_,_,hk1,hk2,hc,_⟩:=h.open om;have r1:=hc v x hx;have c5:=hz.gC 5;have cl:=hz.lt;unfold maxLen at hk2;have hb:=h.b.bud x (aF hx);have PG:=ah (PU x.pb x.n x.bf x.bt x.F x.T w hb.1);have s1:=hb.2.sumF.1;have s2:oJ x.F≤256:=by have:=hb.2.sumF.2;have:=hb.2.n2;omega
 have HZ:=ah hz;have hm:=h.m0.1;have hs:=xV k0 k6;obtain⟨t1,t2⟩:=xS k0 k6;have em:mayN mn k u x=(u||decide (mn≤oJ x.F-sz k)):=rfl;rw[em];generalize oJ x.F=s at*
 clear h hz hx hc hb em;go_in
 go_wp2_with fail;refine PG.out.mono ?_;rintro e w1 ⟨rfl,hb1⟩;have M:=HZ.out.go hb1;have c2:=M.gC 2;have ml:=M.lt;clear M PG;cases u with
 |true=>
  go_wp2_with fail;go_quiet (fail);go_wp2;go_ret;exact⟨rfl,jY⟩
 |false=>
  go_wp2_with fail;go_quiet (fail);go_wp2;go_ret;exact⟨rfl,jY⟩
theorem Q9 {B:Nat} (pz:Nat) (mn lw hi:Int) (O:List (List Int)) (L:List Nd) (v:Nat) (x:Nd) (w:World) (h:pR B w pz mn lw hi O L) (hx:L[v]?=some x):
 Calls prog 106 #[.pointer (some ⟨pz,0,none⟩),.int .i64 v] w fun e w'=>e= .returned (.tuple #[.int .i64 (oJ x.F),.nilIface])∧Below w.heap.size w w':=by
 have hl:=(au.1 hx).1;have NO:=ah (JB pz mn lw hi O L v w h hl);have HH:=ah h;have HX:=ah hx;clear h hx;go_in
 go_wp2_with fail;refine NO.out.mono ?_;rintro e w1 ⟨rfl,hb1⟩;have h1:=HH.out.below hb1;obtain⟨g,off,kn,qo,ko,hz,_,_,hk1,hk2,hc,_⟩:=h1.open om;have r1:=hc v x HX.out;have c5:=hz.gC 5;have cl:=hz.lt;unfold maxLen at hk2;have PG:=ah (PU x.pb x.n x.bf x.bt x.F x.T w1 (h1.b.bud x (aF HX.out)).1);clear h1 hz hc NO;go_wp2_with fail;refine PG.out.mono ?_;rintro e w2 ⟨rfl,hb2⟩;go_wp2;go_ret2
 exact⟨rfl,hb1.trans (hb2.mono hb1.size)⟩
theorem H9 {B:Nat} {ev:Nat→Addr} (pz:Nat) (mn lw hi:Int) (O:List (List Int)) (L:List Nd) (v:Int) (w:World) (hE:Ap B ev w) (h:pR B w pz mn lw hi O L) (hL:0<L.length) (hv:v<0∨(L.length:Int)≤v):
 Calls prog 106 #[.pointer (some ⟨pz,0,none⟩),.int .i64 v] w fun e w'=>e= .returned (.tuple #[.int .i64 0,kM ev 2])∧Below w.heap.size w w':=by
 have NO:=ah (Q8 pz mn lw hi O L v w hE h hL hv);have e1:kM ev 2= .iface 336 (.pointer (some (ev 2))):=rfl;rw[e1] at NO ⊢;clear h hv hE e1;go_in
 go_wp2_with fail;refine NO.out.mono ?_;rintro e w1 ⟨rfl,hb1⟩;go_wp2;go_ret2
 exact⟨rfl,hb1⟩
def lackN (hi:Int) (x:Nd):Int:=if hi-oJ x.F<0 then 0 else hi-oJ x.F
def uQ (oa pg:Int):Int:=IntKind.i64.wrap (oa-pg*64)
theorem Vr {oa pg:Int} (h1: -9223372036854775808≤oa) (h2:oa≤9223372036854775807) (h3:0≤pg) (h4:pg<256):
 (uQ oa pg=oa-pg*64)∨(oa-pg*64<0∧9223372036854000000≤uQ oa pg∧uQ oa pg≤9223372036854775807):=by
 unfold uQ;rw[IntKind.wrap_i64];omega
theorem offW_fit (oa pg:Int): -9223372036854775808≤uQ oa pg∧uQ oa pg≤9223372036854775807:=by
 unfold uQ;rw[IntKind.wrap_i64];omega
def zw (e:Nat) (oa pg:Int):Nat:=(uQ oa pg / e).toNat
theorem hasS_W {e:Nat} (e1:1≤e) (e2:e≤64) {n oa:Int} (h1: -9223372036854775808≤oa) (h2:oa≤9223372036854775807) {s:Sl} (h3:0≤s.pg) (h4:s.pg<256) (hl:s.T.length≤64):
 Jc e (n,oa) s=(decide (s.nd=n)&&decide (0≤uQ oa s.pg)&&decide (uQ oa s.pg % e=0)&&decide (zw e oa s.pg<s.T.length)&&(s.T[zw e oa s.pg]?==some true)):=by
 have key:(s.T[zw e oa s.pg]?==some true)=(decide (zw e oa s.pg<s.T.length)&&(s.T[zw e oa s.pg]?==some true)):=by
  by_cases hq:zw e oa s.pg<s.T.length
  ·rw[dQt hq,Bool.true_and]
  ·rw[dQf hq,Bool.false_and,List.getElem?_eq_none om];rfl
 rcases Vr h1 h2 h3 h4 with q|⟨q1,q2,q3⟩
 ·have hn:zw e oa s.pg=((oa-s.pg*64) / e).toNat:=by unfold zw;rw[q]
  rw[Bool.and_assoc,←key,q,hn];rfl
 ·have big: ¬zw e oa s.pg<s.T.length:=by
   have:uQ oa s.pg / e≥9223372036854000000 / 64:=by
    calc (9223372036854000000:Int) / 64≤uQ oa s.pg / 64:=by omega
     _≤uQ oa s.pg / e:=by
      have he:(0:Int)<e:=om;rw[Int.le_ediv_iff_mul_le he];have h64:uQ oa s.pg / 64*(e:Int)≤uQ oa s.pg / 64*64:=Int.mul_le_mul_of_nonneg_left om om;omega
   unfold zw;omega
  rw[dQf big];unfold Jc;rw[dQf (show¬(0:Int)≤(n,oa).2-s.pg*64 by simp only;omega)];simp
theorem kOf_W {e:Nat} (e1:1≤e) (e2:e≤64) {n oa:Int} (h1: -9223372036854775808≤oa) (h2:oa≤9223372036854775807) {s:Sl} (h3:0≤s.pg) (h4:s.pg<256) (hl:s.T.length≤64) (h:Jc e (n,oa) s=true):zw e oa s.pg=kOf e (n,oa) s:=by
 rcases Vr h1 h2 h3 h4 with q|⟨q1,q2,q3⟩
 ·unfold zw kOf;rw[q]
 ·unfold Jc at h
  simp only[bV,decide_eq_true_eq] at h;omega
theorem quo_W {e:Nat} (e1:1≤e) {oa pg:Int} (h:0≤uQ oa pg):(uQ oa pg).tdiv (e:Int)=(zw e oa pg:Int)∧(uQ oa pg).tmod (e:Int)=uQ oa pg % e:=by
 have hd:0≤uQ oa pg / (e:Int):=Int.ediv_nonneg h om;refine⟨?_,iT h⟩;unfold zw;rw[fI h,Int.toNat_of_nonneg hd]
section
open Go.RowKit Go.Lib
theorem Td {α:Type} {us rest:List α} {z:α} {i:Nat} (hi:i<us.length):
 ((((us++rest).take i++us.drop (i+1)++(us++rest).drop (i+(us.drop (i+1)).length)).take (us.length-1)++[z]++((us++rest).take i++us.drop (i+1)++(us++rest).drop (i+(us.drop (i+1)).length)).drop (us.length-1+1)).take (us.length-1))=us.eraseIdx i:=by
 have e1:((us++rest).take i++us.drop (i+1)++(us++rest).drop (i+(us.drop (i+1)).length)).take (us.length-1)=us.eraseIdx i:=by
  rw[cK (by simp;omega),dG (by simp;omega),cK om,dM]
 rw[bT,cK (by rw[e1,jL];split<;>omega),e1];rw[dG (by rw[jL];split<;>omega)]
def DelPost (B:Nat) (g k i:Nat) (us:List Value) (w:World) (e:Ending) (w':World):Prop:=
 e= .returned (.slice (some ⟨g,0,none⟩) (us.length-1) k)∧w'.ownsRow B 211 1 (.slice (some ⟨g,0,none⟩) (us.length-1) k) (us.length-1) (us.eraseIdx i)∧Keep [g] w w'
end
def behindO (e:Nat) (a b:Ob):Prop:=a.1<b.1∨a.1=b.1∧a.2+e≤b.2
theorem Aw {e:Nat} {s:Sl} {o:Ob}:o∈obsS e s↔∃k,s.T[k]?=some true∧o=vK e s k:=by
 unfold obsS;rw[List.mem_filterMap];constructor
 ·rintro⟨k,_,h⟩
  split at h
  ·rename_i hk
   exact⟨k,hk,(aO h).symm⟩
  ·cases h
 ·rintro⟨k,hk,rfl⟩
  exact⟨k,fM.2 (au.1 hk).1,by rw[if_pos hk]⟩
theorem tH {e:Nat} {C:List Sl} {o:Ob}:o∈qj e C↔∃s∈C,∃k,s.T[k]?=some true∧o=vK e s k:=by
 unfold qj;simp only[eB,Aw]
theorem VB {e:Nat} (e1:1≤e) {s:Sl} (hl:s.T.length=kL e) {k:Nat} (hk:s.T[k]?=some true):s.pg*64≤(vK e s k).2∧(vK e s k).2+e≤s.pg*64+64∧(vK e s k).1=s.nd:=by
 have hlt:=(au.1 hk).1;rw[hl] at hlt;have h1:(k+1)*e≤64:=bW (iQ e (show k+1≤kL e by omega)) (Nat.div_mul_le_self 64 e);have h2:((k:Int)+1)*e≤64:=by exact_mod_cast h1
 have h3:0≤(k:Int)*e:=fO om om;rw[Int.add_mul,Int.one_mul] at h2;refine⟨?_,?_,rfl⟩
 ·show s.pg*64≤s.pg*64+(k:Int)*e
  omega
 ·show s.pg*64+(k:Int)*e+e≤_
  omega
theorem ob_one {e:Nat} {c:Ca} (h:uR e c) {o:Ob} (ho:o∈qj e c.C):0≤o.2∧o.2<16384∧o.2 / 64=(o.2+e-1) / 64:=by
 obtain⟨s,hs,k,hk,rfl⟩:=tH.1 ho;have h1:=VB h.e1 (h.len s hs) hk;have h2:=h.rng hs;have h3:=h.e1;omega
def OnlyP (c:Ca):Prop:=∀(i:Nat) (x:Nd),c.L[i]?=some x→∀p∈x.T,∃s∈c.C,s.nd=i∧s.pg=p.1
def cntN (v:Int) (C:List Sl):Nat:=C.countP fun s=>decide (s.nd=v)
theorem qC.up {B B':Nat} {ev:Nat→Addr} {w:World} (h:qC B ev w) (hb:B≤B') (hs:B'≤w.heap.size):qC B' ev w:=
 ⟨hs,fun i a b=>aC (h.glob i a b) hb,h.cell,h.inj,h.row,fun i a b=>aC (h.lt i a b) hb,aC h.globT hb,h.typ⟩
