/- Lemmas and contracts for the claim's last text: ZPl, ZOps, SB, SDel. -/
import Derived.Test.YtehhldljdakgeaaGreatDoorQa01
import Derived.Test.YtehhldljdakgeaaGreatDoorQa07
set_option linter.unusedSimpArgs false
set_option linter.unusedVariables false
set_option maxHeartbeats 16000000
set_option maxRecDepth 100000
namespace Go.Proofs.YtehhldljdakgeaaGreatDoor
open Go.RowKit Go.Maps
attribute [local go_sem ↓] aJ aK
structure Nd where
 pb:Nat
 bf:Nat
 bt:Nat
 n:Int
 F:List (Int×Int)
 T:List (Int×Int)
def ys (L:List Nd):List Nat:=L.flatMap fun x=>[x.bf,x.bt]
theorem A8 (L:List Nd) (x:Nd):ys (L++[x])=ys L++[x.bf,x.bt]:=by simp[ys]
theorem uz {L:List Nd} {y:Nat}:y∈ys L↔∃x∈L,y=x.bf∨y=x.bt:=by simp[ys]
def mayN (mn k:Int) (u:Bool) (x:Nd):Bool:=u||decide (mn≤nI x.F-sz k)
def okN (mn k:Int) (u:Bool) (x:Nd):Bool:=mayN mn k u x&&(mq k x.F).isSome
def Bp (mn k:Int) (u:Bool) (L:List Nd) (j:Int):Bool:=match L[j.toNat]? with|some x=>okN mn k u x|none=>false
def uS (mn k:Int) (u:Bool) (L:List Nd) (D:List Int):Option Int:=D.find? (Bp mn k u L)
def wY (k:Int) (x:Nd):Bool:=x.F.any fun p=>decide (k≤p.2)
def Cx (k:Int) (L:List Nd):Nat:=if L.any (wY k) then 7 else 5
def wE (k:Int) (b:Int×Int) (x:Nd):Nd:=⟨x.pb,x.bf,x.bt,x.n,sJ k b x.F,qh b.1 k x.T⟩
def gaveN (a k:Int) (x:Nd):Nd:=⟨x.pb,x.bf,x.bt,x.n,giveF a k x.F,rR a x.T⟩
abbrev Pl:=Int×Int×Int
def kU (mn:Int) (O:List (List Int)) (L:List Nd) (v k:Int) (u:Bool):List Nd×Nat×Pl:=
 if v<0∨(L.length:Int)≤v∨k<0∨6<k then(L,2,(0,0,0)) else
 match uS mn k u L (O.getD v.toNat []) with
 |none=>(L,Cx k L,(0,0,0))
 |some j=>match L[j.toNat]? with
  |none=>(L,0,(0,0,0))
  |some x=>match mq k x.F with
   |none=>(L,0,(0,0,0))
   |some b=>(L.set j.toNat (wE k b x),0,(j,b.1,k))
def giveZ (L:List Nd) (v a k:Int):List Nd×Nat:=
 if v<0∨(L.length:Int)≤v then(L,2) else
 match L[v.toNat]? with
 |none=>(L,2)
 |some x=>if yu x.T a=some k then(L.set v.toNat (gaveN a k x),0) else(L,4)
theorem Fe {k:Int} {F:List (Int×Int)}:(mq k F).isSome=F.any fun p=>decide (k≤p.2):=by
 cases h:mq k F with
 |none=>
  have:=Cm h;symm
  simp only[iR,iA,decide_eq_true_eq];intro x hx;have:=this x hx;omega
 |some b=>
  have:=nu h;symm
  simp only[iT,fC,decide_eq_true_eq];exact⟨b,this.1,this.2⟩
theorem Hu {α:Type} {p:α→Bool} {D:List α} {i:Nat} {y:α} (h: ∀z∈D.take i,p z=false) (hy:D[i]?=some y) (hp:p y=true):D.find? p=some y:=by
 have hl:=(au.1 hy).1;have e:D=D.take i++y::D.drop (i+1):=by
  conv=>lhs;rw[←bX i D]
  rw[dQ hl,(au.1 hy).2]
 rw[e,List.find?_append,fZ.2 (fun z hz=>by simp[h z hz])];simp[hp]
theorem Tt {α:Type} {p:α→Bool} {D:List α} (h: ∀z∈D,p z=false):D.find? p=none:=fZ.2 fun z hz=>by simp[h z hz]
structure Fg (x y:Nd):Prop where
 pb:y.pb=x.pb
 bf:y.bf=x.bf
 bt:y.bt=x.bt
 n:y.n=x.n
theorem Fg.refl (x:Nd):Fg x x:=⟨rfl,rfl,rfl,rfl⟩
def qE (L M:List Nd):Prop:=L.length=M.length∧∀(i:Nat) (x y:Nd),L[i]?=some x→M[i]?=some y→Fg x y
theorem qE.refl (L:List Nd):qE L L:=⟨rfl,fun i x y h1 h2=>by rw[h1] at h2;obtain rfl:=aI h2;exact Fg.refl _⟩
theorem qE.set {L:List Nd} {i:Nat} {x y:Nd} (hx:L[i]?=some x) (h:Fg x y):qE L (L.set i y):=⟨sI,fun j a b ha hb=>by
 by_cases e:i=j
 ·subst e
  rw[hx] at ha;obtain rfl:=aI ha;rw[aY (au.1 hx).1] at hb;obtain rfl:=aI hb;exact h
 ·rw[bL e] at hb
  rw[ha] at hb;obtain rfl:=aI hb;exact Fg.refl _⟩
theorem qE.cons {x y:Nd} {L M:List Nd} (h:qE (x::L) (y::M)):Fg x y∧qE L M:=
 ⟨h.2 0 x y rfl rfl,by have:=h.1;simpa using this,fun i a b ha hb=>h.2 (i+1) a b (by simpa using ha) (by simpa using hb)⟩
theorem qE.map {α:Type} (f:Nd→α) (hf: ∀x y,Fg x y→f y=f x): ∀{L M:List Nd},qE L M→M.map f=L.map f
 |[],[],_=>rfl
 |[],y::M,h=>by have:=h.1;simp at this
 |x::L,[],h=>by have:=h.1;simp at this
 |x::L,y::M,h=>by
  obtain⟨h1,h2⟩:=h.cons;simp[hf x y h1,qE.map f hf h2]
theorem ys_eq (L:List Nd):ys L=(L.map fun x=>[x.bf,x.bt]).flatten:=by simp[ys,List.flatMap]
theorem qE.ys {L M:List Nd} (h:qE L M):ys M=ys L:=by
 rw[ys_eq,ys_eq,h.map (fun x=>[x.bf,x.bt]) fun x y q=>by simp[q.bf,q.bt]]
theorem rO (mn:Int) (O:List (List Int)) (L:List Nd) (v k:Int) (u:Bool):qE L (kU mn O L v k u).1:=by
 unfold kU;split
 ·exact qE.refl _
 split
 ·exact qE.refl _
 split
 ·exact qE.refl _
 rename_i x hx;split
 ·exact qE.refl _
 ·exact qE.set hx ⟨rfl,rfl,rfl,rfl⟩
def qY (O:List (List Int)) (n:Nat):Prop:=O.length=n∧∀D∈O,D.length=n∧∀x:Int,x∈D↔0≤x∧x<n
theorem qY.get {O:List (List Int)} {n:Nat} (h:qY O n) {i:Nat} (hi:i<n): ∃D,O[i]?=some D∧D.length=n∧∀x:Int,x∈D↔0≤x∧x<n:=by
 have hl:i<O.length:=by rw[h.1];exact hi
 exact⟨O[i],aA hl,h.2 _ (List.getElem_mem hl)⟩
theorem Tv {mn k:Int} {u:Bool} {L:List Nd} {j:Int} (h:Bp mn k u L j=true): ∃x b,L[j.toNat]?=some x∧okN mn k u x=true∧mq k x.F=some b:=by
 unfold Bp at h;split at h
 ·rename_i x hx
  have h':=h;unfold okN at h';simp only[bV] at h';obtain⟨b,hb⟩:=iU.1 h'.2;exact⟨x,b,hx,h,hb⟩
 ·cases h
theorem QA {mn k:Int} {u:Bool} {L:List Nd} {D:List Int} {j:Int} (h:uS mn k u L D=some j):j∈D∧Bp mn k u L j=true:=
 ⟨dH h,gY h⟩
theorem A9 {mn:Int} {O:List (List Int)} {L:List Nd} {v k:Int} {u:Bool} (h:v<0∨(L.length:Int)≤v∨k<0∨6<k):kU mn O L v k u=(L,2,(0,0,0)):=by
 unfold kU;rw[if_pos h]
theorem DJ {mn:Int} {O:List (List Int)} {L:List Nd} {v k:Int} {u:Bool} (h: ¬(v<0∨(L.length:Int)≤v∨k<0∨6<k)) {D:List Int} (hD:O[v.toNat]?=some D) (hp:uS mn k u L D=none):kU mn O L v k u=(L,Cx k L,(0,0,0)):=by
 unfold kU;rw[if_neg h,eu,hD,gQ,hp]
theorem Aa {mn:Int} {O:List (List Int)} {L:List Nd} {v k:Int} {u:Bool} (h: ¬(v<0∨(L.length:Int)≤v∨k<0∨6<k)) {D:List Int} (hD:O[v.toNat]?=some D) {j:Int} (hp:uS mn k u L D=some j) {x:Nd} {b:Int×Int} (hx:L[j.toNat]?=some x) (hb:mq k x.F=some b):
 kU mn O L v k u=(L.set j.toNat (wE k b x),0,(j,b.1,k)):=by
 unfold kU;rw[if_neg h,eu,hD,gQ,hp];simp only[hx,hb]
theorem wF {mn:Int} {O:List (List Int)} {L:List Nd} {v k:Int} {u:Bool} (hO:qY O L.length) (h: ¬(v<0∨(L.length:Int)≤v∨k<0∨6<k)):
 ∃D,O[v.toNat]?=some D∧D.length=L.length∧(∀x:Int,x∈D↔0≤x∧x<L.length)∧
  ((uS mn k u L D=none∧kU mn O L v k u=(L,Cx k L,(0,0,0)))∨
   ∃j x b,uS mn k u L D=some j∧0≤j∧j<L.length∧L[j.toNat]?=some x∧okN mn k u x=true∧mq k x.F=some b∧kU mn O L v k u=(L.set j.toNat (wE k b x),0,(j,b.1,k))):=by
 obtain⟨D,hD,hl,hm⟩:=hO.get (i:=v.toNat) om;refine⟨D,hD,hl,hm,?_⟩;cases hp:uS mn k u L D with
 |none=>exact .inl ⟨rfl,DJ h hD hp⟩
 |some j=>
  obtain⟨h1,h2⟩:=QA hp;obtain⟨x,b,hx,hk,hb⟩:=Tv h2;have:=(hm j).1 h1;exact .inr ⟨j,x,b,rfl,this.1,this.2,hx,hk,hb,Aa h hD hp hx hb⟩
theorem NA (k:Int) (L:List Nd):Cx k L=7∨Cx k L=5:=by unfold Cx;split<;>simp
structure Sl where
 nd:Int
 pg:Int
 T:List Bool
def nN (T:List Bool):Nat:=T.countP id
def jQ (s:Sl):Nat:=nN s.T
theorem pJ (T:List Bool):nN T≤T.length:=List.countP_le_length
theorem wG (T:List Bool) {k:Nat} {b:Bool} (h:T[k]?=some b):nN T=nN (T.take k)+(if b then 1 else 0)+nN (T.drop (k+1)):=by
 have hl:=(au.1 h).1;have hv:=(au.1 h).2;conv=>lhs;rw[←bX k T,dQ hl,hv]
 unfold nN;rw[List.countP_append,List.countP_cons];cases b<;>simp<;>omega
theorem wZ {T:List Bool} {k:Nat} {b:Bool} (h:T[k]?=some b) (c:Bool):nN (T.set k c)+(if b then 1 else 0)=nN T+if c then 1 else 0:=by
 have hl:=(au.1 h).1;rw[wG T h];have e:(T.set k c)[k]?=some c:=aY hl;rw[wG _ e];have e1:(T.set k c).take k=T.take k:=by
  rw[List.take_set_of_le (aH _)]
 have e2:(T.set k c).drop (k+1)=T.drop (k+1):=by
  rw[List.drop_set_of_lt om]
 rw[e1,e2];omega
def kJ (T:List Bool):Nat:=T.findIdx fun b=> !b
theorem lV {T:List Bool} (h:nN T<T.length):kJ T<T.length∧T[kJ T]?=some false∧∀j,j<kJ T→T[j]?=some true:=by
 have hx: ∃b∈T,(!b)=true:=by
  apply Classical.byContradiction;intro hn;have:nN T=T.length:=by
   unfold nN;rw[List.countP_eq_length];intro b hb;cases b with
   |true=>rfl
   |false=>exact(hn ⟨false,hb,rfl⟩).elim
  omega
 have hl:kJ T<T.length:=List.findIdx_lt_length_of_exists hx;refine⟨hl,?_,fun j hj=> ?_⟩
 ·rw[aA hl]
  have:=List.findIdx_getElem (p:=fun b:Bool=> !b) (xs:=T) (w:=hl);have e:(!T[kJ T])=true:=this;have e2:T[kJ T]=false:=by simpa using e
  rw[e2]
 ·have hjl:j<T.length:=by omega
  rw[aA hjl];have:=List.not_of_lt_findIdx (p:=fun b:Bool=> !b) (xs:=T) hj;simpa using this
theorem Hw {T:List Bool} {k:Nat} (hk:T[k]?=some false) (h: ∀j,j<k→T[j]?=some true):kJ T=k:=by
 have hm:nN T<T.length:=by
  have h1:=wG T hk;have h2:=pJ (T.take k);have h3:=pJ (T.drop (k+1));have hl:=(au.1 hk).1;simp at h1 h2 h3;omega
 obtain⟨h1,h2,h3⟩:=lV hm;rcases gH (kJ T) k with q|q|q
 ·rw[h _ q] at h2;cases h2
 ·exact q
 ·rw[h3 _ q] at hk;cases hk
def Ab (C:List Sl) (m:Nat):Nat:=match C[m]? with|some z=>jQ z|none=>0
theorem x9 {C:List Sl} {m:Nat} {s:Sl} (h:C[m]?=some s):Ab C m=jQ s:=by unfold Ab;rw[h]
def mX (v:Int) (C:List Sl):Nat→Option Nat
 |0=>none
 |i+1=>match C[i]? with
  |none=>mX v C i
  |some s=>if s.nd=v∧jQ s<s.T.length then match mX v C i with
   |none=>some i
   |some m=>if Ab C m<jQ s then some i else some m
   else mX v C i
theorem lQ {v:Int} {C:List Sl}: ∀{i m:Nat},mX v C i=some m→m<i∧∃s,C[m]?=some s∧s.nd=v∧jQ s<s.T.length
 |0,m,h=>by cases h
 |i+1,m,h=>by
  unfold mX at h;split at h
  ·have:=lQ h;exact⟨om,this.2⟩
  rename_i s hs;split at h
  ·rename_i hc
   split at h
   ·obtain rfl:=aI h;exact⟨om,s,hs,hc⟩
   ·rename_i m' hm'
    split at h
    ·obtain rfl:=aI h;exact⟨om,s,hs,hc⟩
    ·obtain rfl:=aI h;have:=lQ hm';exact⟨om,this.2⟩
  ·have:=lQ h;exact⟨om,this.2⟩
theorem xY {v:Int} {C:List Sl}: ∀{i:Nat},mX v C i=none→∀j s,j<i→C[j]?=some s→s.nd=v→s.T.length≤jQ s
 |0,h=>fun j s hj=>om
 |i+1,h=>by
  unfold mX at h;intro j s hj hs hv;split at h
  ·rename_i hn
   by_cases e:j=i
   ·subst e;rw[hs] at hn;cases hn
   ·exact xY h j s om hs hv
  rename_i z hz;split at h
  ·split at h
   ·cases h
   ·split at h<;>cases h
  ·rename_i hc
   by_cases e:j=i
   ·subst e;rw[hs] at hz;obtain rfl:=aI hz
    have:=fun q=>hc ⟨hv,q⟩;omega
   ·exact xY h j s om hs hv
def ltP (s:Sl) (j a:Int):Prop:=s.nd<j∨s.nd=j∧s.pg<a
instance (s:Sl) (j a:Int):Decidable (ltP s j a):=by unfold ltP;infer_instance
def ltS (s t:Sl):Prop:=ltP s t.nd t.pg
def uF (j a:Int) (C:List Sl):Nat:=C.findIdx fun s=> !decide (ltP s j a)
theorem xZ (j a:Int) (C:List Sl):uF j a C≤C.length:=List.findIdx_le_length
theorem Hy {j a:Int} {C:List Sl} {i:Nat} {s:Sl} (hi:i<uF j a C) (hs:C[i]?=some s):ltP s j a:=by
 have:=List.not_of_lt_findIdx (p:=fun s=> !decide (ltP s j a)) (xs:=C) hi;have e:=(au.1 hs).2;simp[e] at this;exact this
theorem Tw {j a:Int} {C:List Sl} {s:Sl} (hs:C[uF j a C]?=some s): ¬ltP s j a:=by
 have hl:=(au.1 hs).1;have:=List.findIdx_getElem (p:=fun s=> !decide (ltP s j a)) (xs:=C) (w:=hl);have e:=(au.1 hs).2;have t2:(!decide (ltP C[uF j a C] j a))=true:=this;rw[e] at t2;simpa using t2
theorem Tx {s t u:Sl} (h:ltS s t) (k:ltS t u):ltS s u:=by unfold ltS ltP at*;omega
theorem Tz {j a:Int} {C:List Sl} (hp:C.Pairwise ltS) {i:Nat} {s:Sl} (hi:uF j a C≤i) (hs:C[i]?=some s): ¬ltP s j a:=by
 have hl:=(au.1 hs).1;obtain⟨t,ht⟩: ∃t,C[uF j a C]?=some t:=⟨C[uF j a C]' om,aA _⟩;have h0:=Tw ht;by_cases e:uF j a C=i
 ·rw[e] at ht;rw[hs] at ht;obtain rfl:=aI ht;exact h0
 ·have:=dG.1 hp (uF j a C) i om hl om
  rw[(au.1 ht).2,(au.1 hs).2] at this;unfold ltS ltP at*;omega
def uJ (C:List Sl) (s:Sl):List Sl:=C.take (uF s.nd s.pg C)++s::C.drop (uF s.nd s.pg C)
def jR (e:Nat):Nat:=64 / e
def jU (e:Nat):List Bool:=List.replicate (jR e) false
theorem qF {e:Nat} (h1:1≤e) (h2:e≤64):0<jR e:=Nat.div_pos h2 h1
theorem vO (e:Nat):nN (jU e)=0:=by unfold nN jU;simp[List.countP_replicate]
theorem Ac {e:Nat} (h1:1≤e) (h2:e≤64):kJ (jU e)=0:=Hw (by have:=qF h1 h2;unfold jU;simp[fq];omega) (fun j hj=>om)
abbrev Ob:=Int×Int
def u7 (e:Nat) (s:Sl) (k:Nat):Ob:=(s.nd,s.pg*64+k*e)
def nD (s:Sl) (k:Nat) (b:Bool):Sl:=⟨s.nd,s.pg,s.T.set k b⟩
structure Ca where
 L:List Nd
 C:List Sl
def takeC (mn:Int) (O:List (List Int)) (e:Nat) (c:Ca) (v:Int) (u:Bool):Ca×Nat×Ob:=
 if v<0∨(c.L.length:Int)≤v then(c,2,(0,0)) else
 match mX v c.C c.C.length with
 |some i=>match c.C[i]? with
  |none=>(c,2,(0,0))
  |some s=>(⟨c.L,c.C.set i (nD s (kJ s.T) true)⟩,0,u7 e s (kJ s.T))
 |none=>if (kU mn O c.L v 0 u).2.1=0 then
   (⟨(kU mn O c.L v 0 u).1,uJ c.C (nD ⟨(kU mn O c.L v 0 u).2.2.1,(kU mn O c.L v 0 u).2.2.2.1,jU e⟩ 0 true)⟩,0,((kU mn O c.L v 0 u).2.2.1,(kU mn O c.L v 0 u).2.2.2.1*64))
  else(⟨(kU mn O c.L v 0 u).1,c.C⟩,(kU mn O c.L v 0 u).2.1,(0,0))
def GK (e:Nat) (o:Ob) (s:Sl):Bool:=decide (s.nd=o.1)&&decide (0≤o.2-s.pg*64)&&decide ((o.2-s.pg*64) % e=0)&&(s.T[((o.2-s.pg*64) / e).toNat]?==some true)
def kOf (e:Nat) (o:Ob) (s:Sl):Nat:=((o.2-s.pg*64) / e).toNat
theorem NH {e:Nat} (e1:1≤e) {o:Ob} {s:Sl}:GK e o s=true↔s.T[kOf e o s]?=some true∧o=u7 e s (kOf e o s):=by
 unfold GK kOf u7;simp only[bV,decide_eq_true_eq,beq_iff_eq];constructor
 ·rintro⟨⟨⟨h1,h2⟩,h3⟩,h4⟩
  refine⟨h4,Prod.ext h1.symm ?_⟩;have hq:0≤(o.2-s.pg*64) / (e:Int):=Int.ediv_nonneg h2 om;have:=Int.mul_ediv_add_emod (o.2-s.pg*64) e;show o.2=s.pg*64+(((o.2-s.pg*64) / (e:Int)).toNat:Int)*e;rw[Int.toNat_of_nonneg hq,Int.mul_comm ((o.2-s.pg*64) / (e:Int)) e];omega
 ·rintro⟨h4,h⟩
  have h1:o.1=s.nd:=congrArg Prod.fst h;have h2:o.2=s.pg*64+(((o.2-s.pg*64) / e).toNat:Int)*e:=congrArg Prod.snd h;obtain⟨q,hq⟩: ∃q:Nat,q=((o.2-s.pg*64) / e).toNat:=⟨_,rfl⟩;rw[←hq] at h2 h4 ⊢;have h3:o.2-s.pg*64=(q:Int)*e:=om;have h5:0≤(q:Int)*e:=fG om om;refine⟨⟨⟨h1.symm,om⟩,?_⟩,h4⟩;rw[h3,Int.mul_emod_left]
theorem NI {e:Nat} (e1:1≤e) {o:Ob} {s:Sl} {k:Nat} (h:o=u7 e s k):kOf e o s=k:=by
 unfold kOf;have h2:o.2=s.pg*64+(k:Int)*e:=congrArg Prod.snd h;rw[show o.2-s.pg*64=(k:Int)*e by omega,Int.mul_ediv_cancel _ om];omega
def Fh (e:Nat) (o:Ob) (C:List Sl):Option Nat:=C.findIdx? (GK e o)
theorem y7 {e:Nat} {o:Ob} {C:List Sl} {i:Nat} (h:Fh e o C=some i): ∃s,C[i]?=some s∧GK e o s=true∧∀j z,j<i→C[j]?=some z→GK e o z=false:=by
 obtain⟨hl,h1,h2⟩:=List.findIdx?_eq_some_iff_getElem.1 h;refine⟨C[i],aA hl,h1,fun j z hj hz=> ?_⟩;have:=h2 j hj;rw[(au.1 hz).2] at this;simpa using this
theorem Cy {e:Nat} {o:Ob} {C:List Sl} (h:Fh e o C=none): ∀s∈C,GK e o s=false:=by
 have:=List.findIdx?_eq_none_iff.1 h;exact this
def giveC (e:Nat) (c:Ca) (o:Ob):Ca×Nat:=match Fh e o c.C with
 |none=>(c,9)
 |some i=>match c.C[i]? with
  |none=>(c,9)
  |some s=>(⟨c.L,c.C.set i (nD s (kOf e o s) false)⟩,0)
def goS (v:Int) (s:Sl):Bool:=decide (s.nd=v)&&decide (jQ s=0)
def Hz (v most:Int):Nat→Ca×Nat→Ca×Nat
 |0,r=>r
 |i+1,(c,n)=>match c.C[i]? with
  |none=>Hz v most i (c,n)
  |some s=>if (n:Int)<most∧goS v s=true then Hz v most i (⟨(giveZ c.L s.nd s.pg 0).1,c.C.eraseIdx i⟩,n+1) else Hz v most i (c,n)
def pK (C:List Sl):List Pl:=C.map fun s=>(s.nd,s.pg,0)
def qZ (C:List Sl):Nat:=(C.map jQ).sum
def xk (C:List Sl):Nat:=(C.map fun s=>s.T.length).sum
def obsS (e:Nat) (s:Sl):List Ob:=(List.range s.T.length).filterMap fun k=>if s.T[k]?=some true then some (u7 e s k) else none
def oM (e:Nat) (C:List Sl):List Ob:=C.flatMap (obsS e)
theorem QB {n:Int} {F T:List (Int×Int)} (h:Inv n F T) {a k:Int} (hg:yu T a=some k):0≤a∧a<256:=by
 have:=h.rngT (wV hg);exact⟨this.1,this.2.1⟩
def xq (L:List Nd) (s:Sl):Prop:=0≤s.nd∧∃x,L[s.nd.toNat]?=some x∧yu x.T s.pg=some 0
structure tq (e:Nat) (c:Ca):Prop where
 e1:1≤e
 e2:e≤64
 zi: ∀x∈c.L,Inv x.n x.F x.T
 zl:c.L.length≤4
 srt:c.C.Pairwise ltS
 len: ∀s∈c.C,s.T.length=jR e
 tk: ∀s∈c.C,xq c.L s
theorem xq.rng {L:List Nd} {s:Sl} (h:xq L s) (hI: ∀x∈L,Inv x.n x.F x.T):0≤s.nd∧s.nd<L.length∧0≤s.pg∧s.pg<256:=by
 obtain⟨h0,x,hx,hg⟩:=h;have hl:=(au.1 hx).1;have:=QB (hI x (aF hx)) hg;exact⟨h0,om,this.1,this.2⟩
theorem Cz: ∀(n:Nat) (l:List Int),l.Pairwise (· < ·)→(∀x∈l,0≤x∧x<n)→l.length≤n
 |n,[],_,_=>sI
 |n,x::r,hp,h=>by
  obtain⟨p1,p2⟩:=bM.1 hp;obtain⟨m,rfl⟩: ∃m,n=m+1:=⟨n-1,by have:=h x sI;omega⟩;have:=Cz m (r.map fun y=>y-1) (by
   rw[List.pairwise_map];exact p2.imp fun q=>om) (fun y hy=>by
   obtain⟨z,hz,rfl⟩:=bJ.1 hy;have a:=p1 z hz;have b:=h z (ak _ hz);have c:=h x sI;omega)
  simp at this ⊢;omega
theorem tq.rng {e:Nat} {c:Ca} (h:tq e c) {s:Sl} (hs:s∈c.C):0≤s.nd∧s.nd<4∧0≤s.pg∧s.pg<256:=by
 have:=(h.tk s hs).rng h.zi;have:=h.zl;omega
theorem TD {C:List Sl} (hp:C.Pairwise ltS) (hr: ∀s∈C,0≤s.nd∧s.nd<4∧0≤s.pg∧s.pg<256):C.length≤1024:=by
 have:=Cz 1024 (C.map fun s=>s.nd*256+s.pg) (by
  rw[List.pairwise_map];refine hp.imp_of_mem fun {a b} ha hb q=> ?_
  have:=hr a ha;have:=hr b hb;unfold ltS ltP at q;omega) (fun x hx=>by
  obtain⟨s,hs,rfl⟩:=bJ.1 hx;have:=hr s hs;omega)
 simpa using this
theorem tq.few {e:Nat} {c:Ca} (h:tq e c):c.C.length≤1024:=TD h.srt fun s hs=>h.rng hs
theorem tq.get {e:Nat} {c:Ca} (h:tq e c) {i:Nat} {s:Sl} (hs:c.C[i]?=some s):s∈c.C:=aF hs
theorem tq.use {e:Nat} {c:Ca} (h:tq e c) {i:Nat} {s:Sl} (hs:c.C[i]?=some s) (k:Nat) (b:Bool):tq e ⟨c.L,c.C.set i (nD s k b)⟩:=by
 have hm:=aF hs;have hl:=(au.1 hs).1;have hv:=(au.1 hs).2;refine⟨h.e1,h.e2,h.zi,h.zl,?_,fun z hz=> ?_,fun z hz=> ?_⟩
 ·rw[dG]
  intro a d ha hd hlt;simp at ha hd;have hp:=dG.1 h.srt a d ha hd hlt;simp only[List.getElem_set];by_cases e1:i=a
  ·subst e1
   have:i≠d:=om;rw[if_pos rfl,if_neg this];rw[hv] at hp;exact hp
  ·rw[if_neg e1]
   by_cases e2:i=d
   ·subst e2
    rw[if_pos rfl];rw[hv] at hp;exact hp
   ·rw[if_neg e2];exact hp
 ·rcases dw hz with q|q
  ·exact h.len z q
  ·subst q;simp[nD];exact h.len s hm
 ·rcases dw hz with q|q
  ·exact h.tk z q
  ·subst q;exact h.tk s hm
theorem ug {C:List Sl} {s z:Sl}:z∈uJ C s↔z=s∨z∈C:=by
 unfold uJ;rw[aD,aB];constructor
 ·rintro(h|h|h)
  ·exact .inr (eZ h)
  ·exact .inl h
  ·exact .inr (fJ h)
 ·rintro(h|h)
  ·exact .inr (.inl h)
  ·rw[←bX (uF s.nd s.pg C) C,aD] at h
   rcases h with h|h
   ·exact .inl h
   ·exact .inr (.inr h)
theorem I4 (C:List Sl) (s:Sl):(uJ C s).length=C.length+1:=by
 have:=xZ s.nd s.pg C;unfold uJ;simp;omega
theorem I6 {C:List Sl} {s:Sl} (hp:C.Pairwise ltS) (hn: ∀z∈C,¬(z.nd=s.nd∧z.pg=s.pg)):(uJ C s).Pairwise ltS:=by
 unfold uJ;have hall: ∀a∈C.take (uF s.nd s.pg C),ltS a s:=fun a ha=>by
  obtain⟨i,hi⟩:=dh ha;have hl:=(au.1 hi).1;rw[bC] at hl;rw[dD om] at hi;exact Hy om hi
 have hge: ∀a∈C.drop (uF s.nd s.pg C),ltS s a:=fun a ha=>by
  obtain⟨i,hi⟩:=dh ha;rw[cK] at hi;have h1:=Tz (j:=s.nd) (a:=s.pg) hp (i:=uF s.nd s.pg C+i) om hi;have h2:=hn a (aF hi);unfold ltS ltP at*;omega
 refine dM.2 ⟨hp.sublist (List.take_sublist _ _),bM.2 ⟨hge,hp.sublist (List.drop_sublist _ _)⟩,fun a ha b hb=> ?_⟩;rcases aB.1 hb with rfl|hb
 ·exact hall a ha
 ·exact Tx (hall a ha) (hge b hb)
theorem xq.set {L:List Nd} {s:Sl} (h:xq L s) {j:Nat} {x y:Nd} (hx:L[j]?=some x) (hy:s.nd=j→yu x.T s.pg=some 0→yu y.T s.pg=some 0):xq (L.set j y) s:=by
 obtain⟨h0,z,hz,hg⟩:=h;refine⟨h0,?_⟩;by_cases e:j=s.nd.toNat
 ·subst e
  rw[hx] at hz;obtain rfl:=aI hz;exact⟨y,aY (au.1 hx).1,hy om hg⟩
 ·exact⟨z,by rw[bL e];exact hz,hg⟩
theorem CG {n:Int} {F T:List (Int×Int)} (h:Inv n F T) {b:Int×Int} (hb:b∈F):yu T b.1=none:=by
 cases hg:yu T b.1 with
 |none=>rfl
 |some k=>exact((h.hand hb).other (aj _ (wV hg)) rfl).elim
theorem QC {mn:Int} {O:List (List Int)} {L:List Nd} {v:Int} {u:Bool} (hO:qY O L.length) (hI: ∀x∈L,Inv x.n x.F x.T) (h: ¬(v<0∨(L.length:Int)≤v)):
 (∃k,(k=7∨k=5)∧kU mn O L v 0 u=(L,k,(0,0,0)))∨
 ∃(j:Nat) (x:Nd) (b:Int×Int),L[j]?=some x∧mq 0 x.F=some b∧yu x.T b.1=none∧0≤b.1∧b.1<256∧kU mn O L v 0 u=(L.set j (wE 0 b x),0,((j:Int),b.1,0)):=by
 obtain⟨D,hD,hl,hm,hc⟩:=wF (mn:=mn) (u:=u) (k:=0) hO (by omega: ¬(v<0∨(L.length:Int)≤v∨(0:Int)<0∨(6:Int)<0));rcases hc with⟨hp,e⟩|⟨j,x,b,hp,j0,j1,hx,hk,hb,e⟩
 ·exact .inl ⟨Cx 0 L,NA 0 L,e⟩
 ·refine .inr ⟨j.toNat,x,b,hx,hb,?_,?_,?_,?_⟩
  ·exact CG (hI x (aF hx)) (nu hb).1
  ·exact((hI x (aF hx)).rngF (nu hb).1).1
  ·exact((hI x (aF hx)).rngF (nu hb).1).2.1
  ·rw[e,Int.toNat_of_nonneg j0]
theorem TG {x:Nd} (h:Inv x.n x.F x.T) {k:Int} (k0:0≤k) {b:Int×Int} (hb:mq k x.F=some b):Inv (wE k b x).n (wE k b x).F (wE k b x).T:=h.take k0 hb
theorem zi_set {L:List Nd} (h: ∀x∈L,Inv x.n x.F x.T) {j:Nat} {y:Nd} (hy:Inv y.n y.F y.T): ∀x∈L.set j y,Inv x.n x.F x.T:=fun x hx=>by
 rcases dw hx with q|q
 ·exact h x q
 ·subst q;exact hy
theorem xq.took {L:List Nd} {s:Sl} (h:xq L s) {j:Nat} {x:Nd} (hx:L[j]?=some x) {b:Int×Int} (hi:Inv x.n x.F x.T) (hb:yu x.T b.1=none):xq (L.set j (wE 0 b x)) s:=
 h.set hx fun _ hg=>by
  show yu (qh b.1 0 x.T) s.pg=some 0;rw[yS _ _ _ hi.ta];split
  ·rfl
  ·exact hg
theorem uT {mn:Int} {O:List (List Int)} {e:Nat} {c:Ca} {v:Int} {u:Bool} (hO:qY O c.L.length) (h:tq e c):tq e (takeC mn O e c v u).1:=by
 unfold takeC;by_cases hv:v<0∨(c.L.length:Int)≤v
 ·rw[if_pos hv];exact h
 rw[if_neg hv];cases hb:mX v c.C c.C.length with
 |some i=>
  obtain⟨_,s,hs,_⟩:=lQ hb;simp only[hs];exact h.use hs _ _
 |none=>
  simp only;rcases QC (mn:=mn) (u:=u) hO h.zi hv with⟨k,hk,e⟩|⟨j,x,b,hx,hbb,hf,b0,b1,e⟩
  ·rw[e]
   have: ¬(k=0):=by rcases hk with q|q<;>omega
   simp only[this,if_false];exact h
  ·rw[e]
   simp only[if_true];have hix:=h.zi x (aF hx);have hjl:=(au.1 hx).1;refine⟨h.e1,h.e2,zi_set h.zi (TG hix om hbb),by simpa using h.zl,?_,fun z hz=> ?_,fun z hz=> ?_⟩
   ·refine I6 h.srt fun z hz q=> ?_
    obtain⟨q1,q2⟩:=q;obtain⟨_,y,hy,hg⟩:=h.tk z hz;simp only[nD] at q1 q2;rw[q1,bQ,hx] at hy;obtain rfl:=aI hy;rw[q2,hf] at hg;cases hg
   ·rcases ug.1 hz with rfl|q
    ·simp[nD,jU]
    ·exact h.len z q
   ·rcases ug.1 hz with rfl|q
    ·refine⟨by simp[nD],wE 0 b x,?_,?_⟩
     ·simp only[nD,bQ]
      exact aY hjl
     ·show yu (qh b.1 0 x.T) b.1=some 0
      rw[yS _ _ _ hix.ta,if_pos rfl]
    ·exact(h.tk z q).took hx hix hf
theorem QD (mn:Int) (O:List (List Int)) (e:Nat) (c:Ca) (v:Int) (u:Bool):qE c.L (takeC mn O e c v u).1.L:=by
 unfold takeC;split
 ·exact qE.refl _
 split
 ·split<;>exact qE.refl _
 ·split<;>exact rO ..
def ptrs (L:List Nd):List Value:=L.map fun x=>.pointer (some ⟨x.pb,0,none⟩)
theorem wI (L:List Nd):(ptrs L).length=L.length:=by simp[ptrs]
theorem NJ {L:List Nd} {j:Nat} {x:Nd} (h:L[j]?=some x):(ptrs L)[j]?=some (.pointer (some ⟨x.pb,0,none⟩)):=by simp[ptrs,h]
theorem TJ (L:List Nd) (x:Nd):ptrs (L++[x])=ptrs L++[.pointer (some ⟨x.pb,0,none⟩)]:=by simp[ptrs]
theorem elNode:El 176 179 (.pointer none) 8:=⟨Tryz.underlying176,kR,rfl,om⟩
structure GL (B:Nat) (w:World) (L:List Nd):Prop where
 bud: ∀x∈L,Bud w x.pb x.n x.bf x.bt x.F x.T∧Inv x.n x.F x.T
 nd:(ys L).Nodup
 out: ∀x∈L,x.pb∉ys L
 lim: ∀y∈ys L,B≤y∧y<w.heap.size
theorem GL.keep {B:Nat} {S:List Nat} {w w':World} {L:List Nd} (h:GL B w L) (k:Keep S w w') (hs: ∀x∈L,x.pb∉S∧x.bf∉S∧x.bt∉S):GL B w' L:=
 ⟨fun x hx=>⟨(h.bud x hx).1.keep k (hs x hx).1 (hs x hx).2.1 (hs x hx).2.2,(h.bud x hx).2⟩,h.nd,h.out,fun y hy=>⟨(h.lim y hy).1,aC (h.lim y hy).2 k.size⟩⟩
theorem GL.below {B:Nat} {w w':World} {L:List Nd} (h:GL B w L) (k:Below w.heap.size w w'):GL B w' L:=h.keep (Keep.of (S:=[]) k) (fun x _=>⟨sI,sI,sI⟩)
theorem GL.snoc {B:Nat} {w w':World} {L:List Nd} (h:GL B w L) (k:Below w.heap.size w w') (x:Nd) (hb:Bud w' x.pb x.n x.bf x.bt x.F x.T) (hi:Inv x.n x.F x.T) (hB:B≤w.heap.size) (h1:w.heap.size≤x.pb) (h2:w.heap.size≤x.bf) (h3:w.heap.size≤x.bt):GL B w' (L++[x]):=by
 have h':=h.below k;have e:=hb.ne;refine⟨fun y hy=> ?_,?_,fun y hy=> ?_,fun y hy=> ?_⟩
 ·rcases aD.1 hy with q|q
  ·exact h'.bud y q
  ·simp at q;subst q;exact⟨hb,hi⟩
 ·rw[A8]
  refine bD.2 ⟨h.nd,by simp;exact e.1,fun a ha b hb=> ?_⟩;have:=(h.lim a ha).2;simp at hb;rcases hb with rfl|rfl<;>omega
 ·rw[A8]
  intro q;rcases aD.1 hy with p|p
  ·have l1:=(h.bud y p).1.ltp
   rcases aD.1 q with q|q
   ·exact h.out y p q
   ·simp at q;rcases q with q|q<;>omega
  ·simp at p;subst p
   rcases aD.1 q with q|q
   ·have:=(h.lim _ q).2;omega
   ·simp at q;rcases q with q|q
    ·exact e.2.1 q
    ·exact e.2.2 q
 ·rw[A8] at hy
  rcases aD.1 hy with q|q
  ·exact h'.lim y q
  ·simp at q
   rcases q with rfl|rfl
   ·exact⟨om,hb.ltf⟩
   ·exact⟨om,hb.ltt⟩
theorem GL.act {B:Nat} {w w':World} {L:List Nd} (h:GL B w L) {i:Nat} {x:Nd} (hx:L[i]?=some x) {F T:List (Int×Int)} (hb:Bud w' x.pb x.n x.bf x.bt F T) (hi:Inv x.n F T) (k:Keep [x.bf,x.bt] w w'):
 GL B w' (L.set i ⟨x.pb,x.bf,x.bt,x.n,F,T⟩)∧ys (L.set i ⟨x.pb,x.bf,x.bt,x.n,F,T⟩)=ys L∧ptrs (L.set i ⟨x.pb,x.bf,x.bt,x.n,F,T⟩)=ptrs L:=by
 have hil:=(au.1 hx).1;have hxe:=(au.1 hx).2;have split:L=L.take i++x::L.drop (i+1):=by
  conv=>lhs;rw[←bX i L]
  rw[dQ hil,hxe]
 have setE:L.set i ⟨x.pb,x.bf,x.bt,x.n,F,T⟩=L.take i++⟨x.pb,x.bf,x.bt,x.n,F,T⟩::L.drop (i+1):=by
  rw[List.set_eq_take_append_cons_drop,if_pos hil]
 have ey:ys (L.set i ⟨x.pb,x.bf,x.bt,x.n,F,T⟩)=ys L:=by
  rw[setE];conv=>rhs;rw[split]
  simp[ys]
 have ep:ptrs (L.set i ⟨x.pb,x.bf,x.bt,x.n,F,T⟩)=ptrs L:=by
  rw[setE];conv=>rhs;rw[split]
  simp[ptrs]
 have mem: ∀z∈L.set i ⟨x.pb,x.bf,x.bt,x.n,F,T⟩,z=⟨x.pb,x.bf,x.bt,x.n,F,T⟩∨(z∈L∧z.bf≠x.bf∧z.bf≠x.bt∧z.bt≠x.bf∧z.bt≠x.bt):=by
  intro z hz;rw[setE] at hz;have nd:=h.nd;rw[split] at nd;simp only[ys,List.flatMap_append,dU] at nd;obtain⟨n1,n2,n3⟩:=bD.1 nd;obtain⟨m1,m2,m3⟩:=bD.1 n2;rcases aD.1 hz with q|q
  ·right
   refine⟨eZ q,?_⟩;have zb:z.bf∈(L.take i).flatMap fun x=>[x.bf,x.bt]:=dY.2 ⟨z,q,sI⟩
   have zt:z.bt∈(L.take i).flatMap fun x=>[x.bf,x.bt]:=dY.2 ⟨z,q,sI⟩
   exact⟨n3 _ zb _ sI,n3 _ zb _ sI,n3 _ zt _ sI,n3 _ zt _ sI⟩
  ·rcases aB.1 q with q|q
   ·exact .inl q
   ·right
    refine⟨fJ q,?_⟩;have zb:z.bf∈(L.drop (i+1)).flatMap fun x=>[x.bf,x.bt]:=dY.2 ⟨z,q,sI⟩
    have zt:z.bt∈(L.drop (i+1)).flatMap fun x=>[x.bf,x.bt]:=dY.2 ⟨z,q,sI⟩
    exact⟨fun e=>m3 _ sI _ zb e.symm,fun e=>m3 _ sI _ zb e.symm,fun e=>m3 _ sI _ zt e.symm,fun e=>m3 _ sI _ zt e.symm⟩
 have hxm:x∈L:=aF hx;have o1: ∀z∈L,z.pb≠x.bf∧z.pb≠x.bt:=fun z hz=>⟨fun e=>h.out z hz (uz.2 ⟨x,hxm,.inl e⟩),fun e=>h.out z hz (uz.2 ⟨x,hxm,.inr e⟩)⟩
 refine⟨⟨fun z hz=> ?_,by rw[ey];exact h.nd,fun z hz=> ?_,fun y hy=> ?_⟩,ey,ep⟩
 ·rcases mem z hz with rfl|⟨q,q1,q2,q3,q4⟩
  ·exact⟨hb,hi⟩
  ·exact⟨(h.bud z q).1.keep k (by simp;exact o1 z q) (by simp;exact⟨q1,q2⟩) (by simp;exact⟨q3,q4⟩),(h.bud z q).2⟩
 ·rw[ey]
  rcases mem z hz with rfl|⟨q,_⟩
  ·exact h.out x hxm
  ·exact h.out z q
 ·rw[ey] at hy
  exact⟨(h.lim y hy).1,aC (h.lim y hy).2 k.size⟩
structure oz (B:Nat) (w:World) (pz:Nat) (mn lw hi:Int) (O:List (List Int)) (L:List Nd):Prop where
 z: ∃qn kn qo ko,jD w pz [.slice none 0 0,.slice none 0 0,.int .i64 mn,.int .i64 lw,.int .i64 hi,.slice qn L.length kn,.slice qo L.length ko]∧nC (ys L) w (.slice qn L.length kn) (ptrs L)∧Bo (ys L) w (.slice qo L.length ko) O
 b:GL B w L
 out:pz∉ys L
 ord:qY O L.length
 m0:0≤mn∧mn≤lw∧lw≤hi∧hi≤9223372036854775807
theorem oz.below {B:Nat} {w w':World} {pz:Nat} {mn lw hi:Int} {O:List (List Int)} {L:List Nd} (h:oz B w pz mn lw hi O L) (k:Below w.heap.size w w'):oz B w' pz mn lw hi O L:=by
 obtain⟨qn,kn,qo,ko,h1,h2,h3⟩:=h.z;exact⟨⟨qn,kn,qo,ko,h1.go k,h2.below k,h3.below k⟩,h.b.below k,h.out,h.ord,h.m0⟩
theorem oz.keep {B:Nat} {S:List Nat} {w w':World} {pz:Nat} {mn lw hi:Int} {O:List (List Int)} {L:List Nd} (h:oz B w pz mn lw hi O L) {i:Nat} {x:Nd} (hx:L[i]?=some x) {F T:List (Int×Int)} (hb:Bud w' x.pb x.n x.bf x.bt F T) (hv:Inv x.n F T) (k:Keep [x.bf,x.bt] w w'):
 oz B w' pz mn lw hi O (L.set i ⟨x.pb,x.bf,x.bt,x.n,F,T⟩)∧Keep (ys L) w w':=by
 obtain⟨qn,kn,qo,ko,h1,h2,h3⟩:=h.z;obtain⟨b1,b2,b3⟩:=h.b.act hx hb hv k;have hxm:=aF hx;have hS: ∀s∈[x.bf,x.bt],s∈ys L:=fun s hs=>by
  simp at hs;exact uz.2 ⟨x,hxm,hs⟩
 have kY:Keep (ys L) w w':=k.mono hS;refine⟨⟨⟨qn,kn,qo,ko,?_,?_,?_⟩,b1,by rw[b2];exact h.out,by simpa using h.ord,h.m0⟩,kY⟩
 ·rw[bZ];exact h1.keep kY h.out
 ·rw[bZ,b2,b3];exact h2.keep kY (fun s hs=>.inl hs)
 ·rw[bZ,b2];exact h3.keep kY (fun s hs=>.inl hs)
theorem oz.open {B:Nat} {w:World} {pz:Nat} {mn lw hi:Int} {O:List (List Int)} {L:List Nd} (h:oz B w pz mn lw hi O L) (hL:0<L.length):
 ∃g off kn qo ko,jD w pz [.slice none 0 0,.slice none 0 0,.int .i64 mn,.int .i64 lw,.int .i64 hi,.slice (some ⟨g,off,none⟩) L.length kn,.slice qo L.length ko]∧g∉ys L∧g<w.heap.size∧L.length≤kn∧kn≤maxLen∧
  (∀j y,L[j]?=some y→w.cell? ⟨g,off+j,none⟩=some (.pointer (some ⟨y.pb,0,none⟩)))∧Bo (ys L) w (.slice qo L.length ko) O:=by
 obtain⟨qn,kn,qo,ko,h1,h2,h3⟩:=h.z;obtain⟨p,cap,e,hc1,hc2,hc⟩:=h2;rw[wI] at e hc1;injection e with e1 e2 e3;subst e1 e3;obtain⟨x,hx⟩: ∃x,L[0]?=some x:=⟨L[0],aA hL⟩;obtain⟨g,off,rfl,hg,hgl,_⟩:=hc 0 _ (NJ hx);refine⟨g,off,kn,qo,ko,h1,hg,hgl,hc1,hc2,fun j y hj=> ?_,h3⟩;obtain⟨g',off',e,_,_,q⟩:=hc j _ (NJ hj);injection e with e;injection e with ea eb;subst ea eb;exact q
theorem I8 {B:Nat} (pz:Nat) (mn lw hi:Int) (O:List (List Int)) (L:List Nd) (v:Nat) (w:World) (h:oz B w pz mn lw hi O L) (hv:v<L.length):
 Calls Tryz.prog 133 #[.pointer (some ⟨pz,0,none⟩),.int .i64 v] w fun e w'=>e= .returned .nilIface∧Below w.heap.size w w':=by
 obtain⟨g,off,kn,qo,ko,hz,_,_,hk1,hk2,_,_⟩:=h.open om;have c5:=hz.gC 5;have cl:=hz.lt;unfold maxLen at hk2;have v0:decide ((v:Int)<0)=false:=decide_eq_false om;have v1:decide (L.length≤v)=false:=decide_eq_false om;clear h hz;go_enter Tryz.func133,Tryz.ntmps133;go_wp2;go_ret;exact⟨rfl,jK⟩
theorem NK {B:Nat} {ev:Nat→Addr} (pz:Nat) (mn lw hi:Int) (O:List (List Int)) (L:List Nd) (v:Int) (w:World) (hE:yT B ev w) (h:oz B w pz mn lw hi O L) (hL:0<L.length) (hv:v<0∨(L.length:Int)≤v):
 Calls Tryz.prog 133 #[.pointer (some ⟨pz,0,none⟩),.int .i64 v] w fun e w'=>e= .returned (jW ev 2)∧Below w.heap.size w w':=by
 obtain⟨g,off,kn,qo,ko,hz,_,_,hk1,hk2,_,_⟩:=h.open hL;have c5:=hz.gC 5;have cl:=hz.lt;unfold maxLen at hk2;have r2:=hE.c2;have e1:jW ev 2= .iface 336 (.pointer (some (ev 2))):=rfl;rw[e1];clear h hz hE e1;by_cases v0:v<0
 ·have v0':decide (v<0)=true:=decide_eq_true v0
  clear v0 hv;go_enter Tryz.func133,Tryz.ntmps133;go_wp2;go_ret;exact⟨rfl,jK⟩
 ·have v1:decide (v<0)=false:=decide_eq_false v0
  have v2:decide ((L.length:Int)≤v)=true:=decide_eq_true om;clear v0 hv;go_enter Tryz.func133,Tryz.ntmps133;go_wp2;go_ret;exact⟨rfl,jK⟩
theorem may_any {B:Nat} (pz:Nat) (mn lw hi:Int) (O:List (List Int)) (L:List Nd) (v:Nat) (x:Nd) (k:Int) (u:Bool) (w:World) (h:oz B w pz mn lw hi O L) (hx:L[v]?=some x) (k0:0≤k) (k6:k≤6):
 Calls Tryz.prog 161 #[.pointer (some ⟨pz,0,none⟩),.int .i64 v,.int .i64 k,.bool u] w fun e w'=>e= .returned (.bool (mayN mn k u x))∧Below w.heap.size w w':=by
 have hl:=(au.1 hx).1;obtain⟨g,off,kn,qo,ko,hz,_,_,hk1,hk2,hc,_⟩:=h.open om;have r1:=hc v x hx;have c5:=hz.gC 5;have cl:=hz.lt;unfold maxLen at hk2;have hb:=h.b.bud x (aF hx);have PG:=ah (Nv x.pb x.n x.bf x.bt x.F x.T w hb.1);have s1:=hb.2.sumF.1;have s2:nI x.F≤256:=by have:=hb.2.sumF.2;have:=hb.2.n2;omega
 have HZ:=ah hz;have hm:=h.m0.1;have hs:=wm k0 k6;obtain⟨t1,t2⟩:=vZ k0 k6;have em:mayN mn k u x=(u||decide (mn≤nI x.F-sz k)):=rfl;rw[em];generalize nI x.F=s at*
 clear h hz hx hc hb em;go_enter Tryz.func161,Tryz.ntmps161;go_wp2_with fail;refine PG.out.mono ?_;rintro e w1 ⟨rfl,hb1⟩;have M:=HZ.out.go hb1;have c2:=M.gC 2;have ml:=M.lt;clear M PG;cases u with
 |true=>
  go_wp2_with fail;go_quiet (fail);go_wp2;go_ret;exact⟨rfl,jK⟩
 |false=>
  go_wp2_with fail;go_quiet (fail);go_wp2;go_ret;exact⟨rfl,jK⟩
theorem NM {B:Nat} (pz:Nat) (mn lw hi:Int) (O:List (List Int)) (L:List Nd) (v:Nat) (x:Nd) (w:World) (h:oz B w pz mn lw hi O L) (hx:L[v]?=some x):
 Calls Tryz.prog 106 #[.pointer (some ⟨pz,0,none⟩),.int .i64 v] w fun e w'=>e= .returned (.tuple #[.int .i64 (nI x.F),.nilIface])∧Below w.heap.size w w':=by
 have hl:=(au.1 hx).1;have NO:=ah (I8 pz mn lw hi O L v w h hl);have HH:=ah h;have HX:=ah hx;clear h hx;go_enter Tryz.func106,Tryz.ntmps106;go_wp2_with fail;refine NO.out.mono ?_;rintro e w1 ⟨rfl,hb1⟩;have h1:=HH.out.below hb1;obtain⟨g,off,kn,qo,ko,hz,_,_,hk1,hk2,hc,_⟩:=h1.open om;have r1:=hc v x HX.out;have c5:=hz.gC 5;have cl:=hz.lt;unfold maxLen at hk2;have PG:=ah (Nv x.pb x.n x.bf x.bt x.F x.T w1 (h1.b.bud x (aF HX.out)).1);clear h1 hz hc NO;go_wp2_with fail;refine PG.out.mono ?_;rintro e w2 ⟨rfl,hb2⟩;go_wp2;go_ret2
 exact⟨rfl,hb1.trans (hb2.mono hb1.size)⟩
theorem Fp {B:Nat} {ev:Nat→Addr} (pz:Nat) (mn lw hi:Int) (O:List (List Int)) (L:List Nd) (v:Int) (w:World) (hE:yT B ev w) (h:oz B w pz mn lw hi O L) (hL:0<L.length) (hv:v<0∨(L.length:Int)≤v):
 Calls Tryz.prog 106 #[.pointer (some ⟨pz,0,none⟩),.int .i64 v] w fun e w'=>e= .returned (.tuple #[.int .i64 0,jW ev 2])∧Below w.heap.size w w':=by
 have NO:=ah (NK pz mn lw hi O L v w hE h hL hv);have e1:jW ev 2= .iface 336 (.pointer (some (ev 2))):=rfl;rw[e1] at NO ⊢;clear h hv hE e1;go_enter Tryz.func106,Tryz.ntmps106;go_wp2_with fail;refine NO.out.mono ?_;rintro e w1 ⟨rfl,hb1⟩;go_wp2;go_ret2
 exact⟨rfl,hb1⟩
def lackN (hi:Int) (x:Nd):Int:=if hi-nI x.F<0 then 0 else hi-nI x.F
def bools (T:List Bool):List Value:=T.map Value.bool
theorem oW (T:List Bool):(bools T).length=T.length:=by simp[bools]
theorem mY {T:List Bool} {j:Nat} {b:Bool} (h:T[j]?=some b):(bools T)[j]?=some (.bool b):=by simp[bools,h]
theorem Fv (T:List Bool) (k:Nat) (b:Bool):bools (T.set k b)=(bools T).set k (.bool b):=by simp[bools,List.map_set]
abbrev SA:=List (Nat×Nat)
def kZ (A:SA):List Value:=A.map fun p=>.pointer (some ⟨p.1,0,none⟩)
theorem qG (A:SA):(kZ A).length=A.length:=by simp[kZ]
theorem Ae {A:SA} {j:Nat} {p:Nat×Nat} (h:A[j]?=some p):(kZ A)[j]?=some (.pointer (some ⟨p.1,0,none⟩)):=by simp[kZ,h]
theorem Af (A:SA): ∀u∈kZ A,u.oneCell'=true:=by
 intro u hu;obtain⟨p,_,rfl⟩:=bJ.1 hu;rfl
theorem elSlab:El 184 211 (.pointer none) 8:=⟨fH,kR,rfl,om⟩
def oK (s:Sl) (gt:Nat):List Value:=[.int .i64 s.nd,.int .i64 s.pg,.int .i64 0,.slice (some ⟨gt,0,none⟩) s.T.length s.T.length,.int .i64 (jQ s)]
def tL (w:World) (p:Nat×Nat) (s:Sl):Prop:=jD w p.1 (oK s p.2)∧jD w p.2 (bools s.T)
def ay (A:SA):List Nat:=A.flatMap fun p=>[p.1,p.2]
theorem qH {A:SA} {y:Nat}:y∈ay A↔∃p∈A,y=p.1∨y=p.2:=by simp[ay]
def cay (pc:Nat) (v:Value) (A:SA):List Nat:=pc::(jF v++ay A)
structure Ag (X:List Nat) (B:Nat) (w:World) (pc pz e:Nat) (v:Value) (A:SA) (C:List Sl):Prop where
 c:jD w pc [.pointer (some ⟨pz,0,none⟩),.int .i64 e,v]
 row:w.ownsRow B 211 1 v C.length (kZ A)
 len:A.length=C.length
 sl: ∀(i:Nat) (p:Nat×Nat) (s:Sl),A[i]?=some p→C[i]?=some s→tL w p s
 mem: ∀y∈cay pc v A,y∈X
 nd:(cay pc v A).Nodup
 lim: ∀y∈cay pc v A,B≤y∧y<w.heap.size
section
variable {X Y S:List Nat} {B:Nat} {w w':World} {pc pz e:Nat} {v:Value} {A:SA} {C:List Sl}
theorem tL.keep {p:Nat×Nat} {s:Sl} (h:tL w p s) (k:Keep S w w') (h1:p.1∉S) (h2:p.2∉S):tL w' p s:=⟨h.1.keep k h1,h.2.keep k h2⟩
theorem Ag.keep (h:Ag X B w pc pz e v A C) (k:Keep S w w') (hs: ∀s∈S,s∉cay pc v A):Ag X B w' pc pz e v A C:=
 ⟨h.c.keep k (fun q=>hs _ q (by simp[cay])),jE h.row k (fun x hx q=>hs x hx (by simp[cay,q])),h.len,fun i p s hp hq=>(h.sl i p s hp hq).keep k (fun q=>hs _ q (by
   unfold cay;exact ak _ (aj _ (qH.2 ⟨p,aF hp,.inl rfl⟩)))) (fun q=>hs _ q (by
   unfold cay;exact ak _ (aj _ (qH.2 ⟨p,aF hp,.inr rfl⟩)))),h.mem,h.nd,fun y hy=>⟨(h.lim y hy).1,aC (h.lim y hy).2 k.size⟩⟩
theorem Ag.below (h:Ag X B w pc pz e v A C) (k:Below w.heap.size w w'):Ag X B w' pc pz e v A C:=h.keep (Keep.of (S:=[]) k) (fun s q=>by cases q)
theorem Ag.more (h:Ag X B w pc pz e v A C) (hX: ∀x∈X,x∈Y):Ag Y B w pc pz e v A C:=⟨h.c,h.row,h.len,h.sl,fun y hy=>hX y (h.mem y hy),h.nd,h.lim⟩
theorem Ag.at (h:Ag X B w pc pz e v A C) {i:Nat} {s:Sl} (hs:C[i]?=some s): ∃p,A[i]?=some p∧tL w p s∧p.1∈cay pc v A∧p.2∈cay pc v A:=by
 have hl:=(au.1 hs).1;obtain⟨p,hp⟩: ∃p,A[i]?=some p:=⟨A[i]'(by rw[h.len];exact hl),aA _⟩;have hm:=aF hp;exact⟨p,hp,h.sl i p s hp hs,ak _ (aj _ (qH.2 ⟨p,hm,.inl rfl⟩)),ak _ (aj _ (qH.2 ⟨p,hm,.inr rfl⟩))⟩
theorem Ag.form (h:Ag X B w pc pz e v A C): ∃q k,v= .slice q C.length k∧C.length≤k∧k≤maxLen∧∀j p,A[j]?=some p→∃g,q=some ⟨g,0,none⟩∧g<w.heap.size∧w.cell? ⟨g,j,none⟩=some (.pointer (some ⟨p.1,0,none⟩)):=by
 have ho:=h.row;have hln:=h.len;rcases h.row.2 with⟨rfl,h3⟩|⟨g,cap,cur,rfl,hg,hh,hcap,hmax,_⟩
 ·refine⟨none,0,by rw[h3],om,by unfold maxLen;omega,fun j p hj=> ?_⟩
  have:=(au.1 hj).1;omega
 ·refine⟨some ⟨g,0,none⟩,cap,rfl,hcap,hmax,fun j p hj=>⟨g,rfl,(ho.lt g rfl).2,?_⟩⟩
  have hlt:=(au.1 hj).1;rw[ho.cellAt j om];exact Ae hj
theorem NP {A:SA} (h:(ay A).Nodup) {i j:Nat} {p r:Nat×Nat} (hp:A[i]?=some p) (hr:A[j]?=some r) (hne:i≠j):p.1≠r.1∧p.1≠r.2∧p.2≠r.1∧p.2≠r.2:=by
 induction A generalizing i j with
 |nil=>simp at hp
 |cons a A ih=>
  simp only[ay,dU] at h;obtain⟨n1,n2,n3⟩:=bD.1 h;cases i with
  |zero=>
   cases j with
   |zero=>omega
   |succ j=>
    simp at hp hr;subst hp;have hm:=aF hr;have m1:r.1∈A.flatMap fun p=>[p.1,p.2]:=qH.2 ⟨r,hm,.inl rfl⟩
    have m2:r.2∈A.flatMap fun p=>[p.1,p.2]:=qH.2 ⟨r,hm,.inr rfl⟩
    exact⟨n3 _ sI _ m1,n3 _ sI _ m2,n3 _ sI _ m1,n3 _ sI _ m2⟩
  |succ i=>
   cases j with
   |zero=>
    simp at hp hr;subst hr;have hm:=aF hp;have m1:p.1∈A.flatMap fun p=>[p.1,p.2]:=qH.2 ⟨p,hm,.inl rfl⟩
    have m2:p.2∈A.flatMap fun p=>[p.1,p.2]:=qH.2 ⟨p,hm,.inr rfl⟩
    exact⟨fun q=>n3 _ sI _ m1 q.symm,fun q=>n3 _ sI _ m1 q.symm,fun q=>n3 _ sI _ m2 q.symm,fun q=>n3 _ sI _ m2 q.symm⟩
   |succ j=>exact ih n2 (by simpa using hp) (by simpa using hr) om
theorem CK {A:SA} (h:(ay A).Nodup) {i:Nat} {p:Nat×Nat} (hp:A[i]?=some p):p.1≠p.2:=by
 induction A generalizing i with
 |nil=>simp at hp
 |cons a A ih=>
  simp only[ay,dU] at h;obtain⟨n1,n2,_⟩:=bD.1 h;cases i with
  |zero=>simp at hp;subst hp;simpa using n1
  |succ i=>exact ih n2 (by simpa using hp)
theorem Ag.nday (h:Ag X B w pc pz e v A C):(ay A).Nodup:=(bD.1 (aS.1 h.nd).2).2.1
theorem Ag.use (h:Ag X B w pc pz e v A C) {i:Nat} {p:Nat×Nat} (hp:A[i]?=some p) {s:Sl} (hs:tL w' p s) (k:Keep [p.1,p.2] w w'):Ag X B w' pc pz e v A (C.set i s):=by
 have hm:=aF hp;have a1:p.1∈ay A:=qH.2 ⟨p,hm,.inl rfl⟩;have a2:p.2∈ay A:=qH.2 ⟨p,hm,.inr rfl⟩;obtain⟨n0,n1⟩:=aS.1 h.nd;obtain⟨_,n2,n3⟩:=bD.1 n1;have npc:pc∉[p.1,p.2]:=fun q=>by
  simp at q;rcases q with q|q
  ·exact n0 (aj _ (q▸a1))
  ·exact n0 (aj _ (q▸a2))
 have ho:w'.ownsRow B 211 1 v C.length (kZ A):=jE h.row k fun x hx q=>by
  simp at hx;rcases hx with rfl|rfl
  ·exact n3 _ q _ a1 rfl
  ·exact n3 _ q _ a2 rfl
 refine⟨h.c.keep k npc,by rw[bZ];exact ho,by simpa using h.len,fun j r z hr hz=> ?_,h.mem,h.nd,fun y hy=>⟨(h.lim y hy).1,aC (h.lim y hy).2 k.size⟩⟩;by_cases e:i=j
 ·subst e
  rw[hp] at hr;obtain rfl:=aI hr;rw[aY (by rw[←h.len];exact(au.1 hp).1)] at hz;obtain rfl:=aI hz;exact hs
 ·rw[bL e] at hz
  obtain⟨q1,q2,q3,q4⟩:=NP n2 hr hp om;exact(h.sl j r z hr hz).keep k (by simp;exact⟨q1,q2⟩) (by simp;exact⟨q3,q4⟩)
end
section
open Go.RowKit Go.Lib
theorem QL {α:Type} {us rest:List α} {z:α} {i:Nat} (hi:i<us.length):
 ((((us++rest).take i++us.drop (i+1)++(us++rest).drop (i+(us.drop (i+1)).length)).take (us.length-1)++[z]++((us++rest).take i++us.drop (i+1)++(us++rest).drop (i+(us.drop (i+1)).length)).drop (us.length-1+1)).take (us.length-1))=us.eraseIdx i:=by
 have e1:((us++rest).take i++us.drop (i+1)++(us++rest).drop (i+(us.drop (i+1)).length)).take (us.length-1)=us.eraseIdx i:=by
  rw[cB (by simp;omega),dP (by simp;omega),cB om,dK]
 rw[bS,cB (by rw[e1,List.length_eraseIdx];split<;>omega),e1];rw[dP (by rw[List.length_eraseIdx];split<;>omega)]
def DelPost (B:Nat) (g k i:Nat) (us:List Value) (w:World) (e:Ending) (w':World):Prop:=
 e= .returned (.slice (some ⟨g,0,none⟩) (us.length-1) k)∧w'.ownsRow B 211 1 (.slice (some ⟨g,0,none⟩) (us.length-1) k) (us.length-1) (us.eraseIdx i)∧Keep [g] w w'
end
end Go.Proofs.YtehhldljdakgeaaGreatDoor
