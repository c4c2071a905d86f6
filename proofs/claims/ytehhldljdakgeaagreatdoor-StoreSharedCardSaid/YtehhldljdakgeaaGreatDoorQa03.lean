/- Lemmas and contracts for the claim's last text: Plain. -/
import Derived.Test.YtehhldljdakgeaaGreatDoorQa01
set_option linter.unusedSimpArgs false
set_option linter.unusedVariables false
set_option maxHeartbeats 16000000
set_option maxRecDepth 100000
namespace Go.Proofs.YtehhldljdakgeaaGreatDoor
open Go.RowKit Go.Maps
attribute [local go_sem ↓] aJ aK
def sz (k:Int):Int:=2 ^ k.toNat
theorem zH {k:Int} (h0:0≤k) (h6:k≤6):k=0∨k=1∨k=2∨k=3∨k=4∨k=5∨k=6:=om
theorem Ql {k:Int} (h0:0≤k) (h6:k≤7):k=0∨k=1∨k=2∨k=3∨k=4∨k=5∨k=6∨k=7:=om
theorem sz0:sz 0=1:=rfl
theorem sz1:sz 1=2:=rfl
theorem sz2:sz 2=4:=rfl
theorem sz3:sz 3=8:=rfl
theorem sz4:sz 4=16:=rfl
theorem sz5:sz 5=32:=rfl
theorem sz6:sz 6=64:=rfl
theorem vZ {k:Int} (h0:0≤k) (h6:k≤6):1≤sz k∧sz k≤64:=by
 rcases zH h0 h6 with rfl|rfl|rfl|rfl|rfl|rfl|rfl<;>decide
theorem Sr {k:Int} (h0:0≤k) (h6:k≤7):1≤sz k∧sz k≤128:=by
 rcases Ql h0 h6 with rfl|rfl|rfl|rfl|rfl|rfl|rfl|rfl<;>decide
theorem wh {k:Int} (h0:0≤k) (h6:k≤6):sz (k+1)=2*sz k:=by
 rcases zH h0 h6 with rfl|rfl|rfl|rfl|rfl|rfl|rfl<;>decide
theorem wm {k:Int} (h0:0≤k) (h6:k≤6):wrap64 (2 ^ k.toNat)=sz k:=by
 unfold wrap64;rcases zH h0 h6 with rfl|rfl|rfl|rfl|rfl|rfl|rfl<;>decide
theorem Qm: ∀a:Fin 512,∀k:Fin 7,
 bits .and .i64 ((a.val:Nat):Int) (((2 ^ k.val:Nat):Int)-1)=(((a.val % 2 ^ k.val:Nat)):Int)
 ∧bits .xor .i64 ((a.val:Nat):Int) ((2 ^ k.val:Nat):Int)=(if a.val % (2*2 ^ k.val)<2 ^ k.val then((a.val:Nat):Int)+((2 ^ k.val:Nat):Int) else((a.val:Nat):Int)-((2 ^ k.val:Nat):Int))
 ∧bits .andNot .i64 ((a.val:Nat):Int) ((2 ^ k.val:Nat):Int)=(if a.val % (2*2 ^ k.val)<2 ^ k.val then((a.val:Nat):Int) else((a.val:Nat):Int)-((2 ^ k.val:Nat):Int)):=by
 decide+kernel
theorem bits_at {a k:Int} (h0:0≤a) (h1:a<512) (k0:0≤k) (k6:k≤6):
 bits .and .i64 a (sz k-1)=a % sz k
 ∧bits .xor .i64 a (sz k)=(if a % (2*sz k)<sz k then a+sz k else a-sz k)
 ∧bits .andNot .i64 a (sz k)=(if a % (2*sz k)<sz k then a else a-sz k):=by
 obtain⟨n,rfl⟩:=Int.eq_ofNat_of_zero_le h0;obtain⟨m,rfl⟩:=Int.eq_ofNat_of_zero_le k0;have t:=Qm ⟨n,om⟩ ⟨m,om⟩;have e:sz (m:Int)=((2 ^ m:Nat):Int):=by simp[sz]
 have e2:(2:Int)*((2 ^ m:Nat):Int)=((2*2 ^ m:Nat):Int):=sI;rw[e,e2];simp only[←Int.natCast_emod,Int.ofNat_lt] at t ⊢;exact t
theorem and_sz {a k:Int} (h0:0≤a) (h1:a<512) (k0:0≤k) (k6:k≤6):bits .and .i64 a (sz k-1)=a % sz k:=(bits_at h0 h1 k0 k6).1
def qy (a k:Int):Nat:=if a<0∨256≤a∨k<0∨6<k then 2 else if a % sz k=0 then 0 else 3
def checkE (a k n:Int):Nat:=if n<1∨256<n∨k<0∨6<k∨a<0∨n-sz k<a then 2 else if a % sz k=0 then 0 else 3
def xV (a k:Int):Int:=if a % (2*sz k)<sz k then a else a-sz k
def Bu (a k:Int):Int:=if a % (2*sz k)<sz k then a+sz k else a-sz k
theorem yt (a k:Int):(qy a k=2∧(a<0∨256≤a∨k<0∨6<k))∨((0≤a∧a≤255∧0≤k∧k≤6)∧((qy a k=3∧a % sz k≠0)∨(qy a k=0∧a % sz k=0))):=by
 unfold qy;by_cases h:a<0∨256≤a∨k<0∨6<k
 ·exact .inl ⟨by rw[if_pos h],h⟩
 ·refine .inr ⟨om,?_⟩
  by_cases h2:a % sz k=0
  ·exact .inr ⟨by rw[if_neg h,if_pos h2],h2⟩
  ·exact .inl ⟨by rw[if_neg h,if_neg h2],h2⟩
def upE (a k:Int):Nat:=if qy a k=0 then(if k=6 then 4 else 0) else qy a k
def Qn (a k:Int):Nat:=if qy a k=0 then(if k=0 then 4 else 0) else qy a k
theorem H8 {a k:Int} (h:qy a k=0):0≤a∧a≤255∧0≤k∧k≤6∧a % sz k=0:=by
 rcases yt a k with⟨h2,_⟩|⟨⟨a0,a1,k0,k6⟩,⟨h2,_⟩|⟨_,h2⟩⟩
 ·omega
 ·omega
 ·exact⟨a0,a1,k0,k6,h2⟩
theorem Ch {a k:Int} (h:Qn a k=0):qy a k=0∧k≠0:=by
 unfold Qn at h;by_cases h1:qy a k=0
 ·rw[if_pos h1] at h
  exact⟨h1,fun e=>by rw[if_pos e] at h;omega⟩
 ·rw[if_neg h1] at h;omega
theorem Sv {a k:Int} (a0:0≤a) (a1:a≤255) (k0:0≤k) (k6:k≤6) (h:a % sz k=0):qy a k=0:=by
 unfold qy;rw[if_neg om,if_pos h]
theorem downE_mk {a k:Int} (h:qy a k=0) (h6:k≠0):Qn a k=0:=by unfold Qn;rw[if_pos h,if_neg h6]
theorem kin {a k:Int} (a0:0≤a) (a1:a≤255) (k0:0≤k) (k5:k≤5) (ha:a % sz k=0):
 (0≤Bu a k∧Bu a k≤255∧Bu a k % sz k=0)∧Bu (Bu a k) k=a∧xV (Bu a k) k=xV a k∧(0≤xV a k∧xV a k≤255∧xV a k % sz (k+1)=0)∧
 ((xV a k=a∧Bu a k=xV a k+sz k)∨(xV a k=Bu a k∧a=xV a k+sz k))∧xV a k=a / (2*sz k)*(2*sz k)∧(Bu a k=if xV a k=a then a+sz k else xV a k):=by
 have e:k=0∨k=1∨k=2∨k=3∨k=4∨k=5:=om;rcases e with rfl|rfl|rfl|rfl|rfl|rfl<;>simp only[Bu,xV,sz0,sz1,sz2,sz3,sz4,sz5,sz6,show(0:Int)+1=1 from rfl,show(1:Int)+1=2 from rfl,show(2:Int)+1=3 from rfl,show(3:Int)+1=4 from rfl,show(4:Int)+1=5 from rfl,show(5:Int)+1=6 from rfl] at* <;>(refine⟨⟨?_,?_,?_⟩,?_,?_,⟨?_,?_,?_⟩,?_,?_,?_⟩<;>omega)
theorem kin_p {a k:Int} (a0:0≤a) (a1:a≤255) (k0:0≤k) (k5:k≤5) (ha:a % sz k=0):0≤xV a k∧xV a k≤255:=by
 obtain⟨_,_,_,⟨p0,p1,_⟩,_⟩:=kin a0 a1 k0 k5 ha;exact⟨p0,p1⟩
theorem kin_q {a k:Int} (a0:0≤a) (a1:a≤255) (k0:0≤k) (k5:k≤5) (ha:a % sz k=0):a / sz (k+1)*sz (k+1)=xV a k:=by
 obtain⟨_,_,_,_,_,hp,_⟩:=kin a0 a1 k0 k5 ha;rw[wh k0 om];exact hp.symm
theorem kin_b {a k:Int} (a0:0≤a) (a1:a≤255) (k0:0≤k) (k5:k≤5) (ha:a % sz k=0):(xV a k=a∧Bu a k=a+sz k)∨(xV a k≠a∧Bu a k=xV a k):=by
 obtain⟨_,_,_,_,_,_,hb⟩:=kin a0 a1 k0 k5 ha;by_cases h:xV a k=a
 ·rw[if_pos h] at hb;exact .inl ⟨h,hb⟩
 ·rw[if_neg h] at hb;exact .inr ⟨h,hb⟩
def ordI (n:Int):Int:=if n≤1 then 0 else if n≤2 then 1 else if n≤4 then 2 else if n≤8 then 3 else if n≤16 then 4 else if n≤32 then 5 else 6
theorem sz_le64 {k:Int} (h0:0≤k) (h6:k≤6):sz k≤64:=(vZ h0 h6).2
def vR (a n:Int):Int:=if a % 64=0∧64≤n then 6 else if a % 32=0∧32≤n then 5 else if a % 16=0∧16≤n then 4 else if a % 8=0∧8≤n then 3 else if a % 4=0∧4≤n then 2 else if a % 2=0∧2≤n then 1 else 0
theorem uK (a n:Int):0≤vR a n∧vR a n≤6:=by
 unfold vR
 (repeat' split)<;>omega
theorem zI {a n:Int} (h:1≤n):a % sz (vR a n)=0∧sz (vR a n)≤n:=by
 unfold vR
 (repeat' split)<;>simp only[sz0,sz1,sz2,sz3,sz4,sz5,sz6]<;>omega
theorem Dr {a n k:Int} (k6:k≤6) (h:vR a n<k): ¬(a % sz k=0∧sz k≤n):=by
 have h0:=(uK a n).1;have e:k=1∨k=2∨k=3∨k=4∨k=5∨k=6:=om;unfold vR at h;rcases e with rfl|rfl|rfl|rfl|rfl|rfl<;>simp only[sz1,sz2,sz3,sz4,sz5,sz6]<;>(repeat' split at h)<;>omega
theorem covO_min {a n k:Int} (k0:0≤k) (h:k≤vR a n) (hn:1≤n):a % sz k=0∧sz k≤n:=by
 have h6:=(uK a n).2;have e:k=0∨k=1∨k=2∨k=3∨k=4∨k=5∨k=6:=om;unfold vR at h;rcases e with rfl|rfl|rfl|rfl|rfl|rfl|rfl<;>simp only[sz0,sz1,sz2,sz3,sz4,sz5,sz6]<;>(repeat' split at h)<;>omega
def covF:Nat→Int→Int→List (Int×Int)
 |0,_,_=>[]
 |f+1,a,n=>if n≤0 then[] else(a,vR a n)::covF f (a+sz (vR a n)) (n-sz (vR a n))
def uH (a n:Int):List (Int×Int):=covF n.toNat a n
theorem zJ: ∀(f g:Nat) (a n:Int),n.toNat≤f→n.toNat≤g→covF f a n=covF g a n
 |0,0,_,_,_,_=>rfl
 |0,g+1,a,n,hf,_=>by
  have:n≤0:=om;simp[covF,this]
 |f+1,0,a,n,_,hg=>by
  have:n≤0:=om;simp[covF,this]
 |f+1,g+1,a,n,hf,hg=>by
  unfold covF;by_cases h:n≤0
  ·rw[if_pos h,if_pos h]
  ·rw[if_neg h,if_neg h]
   have hb:=uK a n;have hs:=(vZ hb.1 hb.2).1;rw[zJ f g _ _ om om]
theorem qA {a n:Int} (h:n≤0):uH a n=[]:=by
 unfold uH;have:n.toNat=0:=om;rw[this];rfl
theorem uL {a n:Int} (h:1≤n):uH a n=(a,vR a n)::uH (a+sz (vR a n)) (n-sz (vR a n)):=by
 have hb:=uK a n;have hs:=(vZ hb.1 hb.2).1;unfold uH;obtain⟨f,hf⟩: ∃f,n.toNat=f+1:=⟨n.toNat-1,om⟩;rw[hf];show(if n≤0 then[] else _)=_;rw[if_neg om];rw[zJ f (n-sz (vR a n)).toNat _ _ om (aH _)]
theorem wu: ∀(f:Nat) (a n:Int),n.toNat≤f→((uH a n).length:Int)≤n.toNat
 |0,a,n,h=>by rw[qA om];exact Int.natCast_nonneg _
 |f+1,a,n,h=>by
  by_cases h0:n≤0
  ·rw[qA h0];exact Int.natCast_nonneg _
  ·have hb:=uK a n
   have hs:=(vZ hb.1 hb.2).1;rw[uL om];have:=wu f (a+sz (vR a n)) (n-sz (vR a n)) om;simp only[dF];omega
def Chain (e:Int):Int→List (Int×Int)→Prop
 |a,[]=>a=e
 |a,b::r=>b.1=a∧0≤b.2∧b.2≤6∧a % sz b.2=0∧a+sz b.2≤e∧Chain e (a+sz b.2) r
theorem tF: ∀(f:Nat) (a n:Int),n.toNat≤f→0≤n→Chain (a+n) a (uH a n)
 |0,a,n,h,hn=>by
  have:n=0:=om;subst this;rw[qA om];simp[Chain]
 |f+1,a,n,h,hn=>by
  by_cases h0:n=0
  ·subst h0
   rw[qA om];simp[Chain]
  ·have hb:=uK a n
   have hs:=(vZ hb.1 hb.2).1;obtain⟨f1,f2⟩:=zI (a:=a) (n:=n) om;rw[uL om];have:=tF f (a+sz (vR a n)) (n-sz (vR a n)) om om;refine⟨rfl,hb.1,hb.2,f1,(show a+sz (vR a n)≤a+n by omega),?_⟩;rwa [show a+sz (vR a n)+(n-sz (vR a n))=a+n from om] at this
def Asc (l:List (Int×Int)):Prop:=l.Pairwise fun p q=>p.1<q.1
def yu (l:List (Int×Int)) (a:Int):Option Int:=(l.find? fun p=>p.1==a).map (·.2)
def rR (a:Int) (l:List (Int×Int)):List (Int×Int):=l.filter fun p=>p.1 !=a
def qh (a k:Int):List (Int×Int)→List (Int×Int)
 |[]=>[(a,k)]
 |p::r=>if a<p.1 then(a,k)::p::r else if a=p.1 then(a,k)::r else p::qh a k r
theorem Asc.del {l:List (Int×Int)} (h:Asc l) (a:Int):Asc (rR a l):=List.Pairwise.filter _ h
theorem Nf {l:List (Int×Int)} {a:Int} {p:Int×Int}:p∈rR a l↔p∈l∧p.1≠a:=by simp[rR]
theorem Dt: ∀{l:List (Int×Int)} {a k:Int} {p:Int×Int},p∈qh a k l→p=(a,k)∨p∈l
 |[],a,k,p,h=>by simpa[qh] using h
 |q::r,a,k,p,h=>by
  unfold qh at h;split at h
  ·simpa using h
  ·split at h
   ·rcases aB.1 h with h|h
    ·exact .inl h
    ·exact .inr (ak _ h)
   ·rcases aB.1 h with h|h
    ·exact .inr (by simp[h])
    ·rcases Dt h with h|h
     ·exact .inl h
     ·exact .inr (ak _ h)
theorem Asc.put: ∀{l:List (Int×Int)},Asc l→∀a k,Asc (qh a k l)
 |[],_,a,k=>by simp[qh,Asc]
 |q::r,h,a,k=>by
  obtain⟨h1,h2⟩:=bM.1 h;unfold qh;split
  ·refine bM.2 ⟨fun p hp=> ?_,h⟩
   rcases aB.1 hp with rfl|hp
   ·assumption
   ·have:=h1 p hp;show a<p.1;omega
  ·split
   ·rename_i e
    exact bM.2 ⟨fun p hp=>by have:=h1 p hp;show a<p.1;omega,h2⟩
   ·refine bM.2 ⟨fun p hp=> ?_,Asc.put h2 a k⟩
    rcases Dt hp with rfl|hp
    ·show q.1<a;omega
    ·exact h1 p hp
theorem oI (p:Int×Int) (l:List (Int×Int)) (a:Int):yu (p::l) a=if p.1=a then some p.2 else yu l a:=by
 unfold yu;by_cases h:p.1=a<;>simp[h]
theorem wV: ∀{l:List (Int×Int)} {a k:Int},yu l a=some k→(a,k)∈l
 |[],a,k,h=>by simp[yu] at h
 |p::r,a,k,h=>by
  rw[oI] at h;split at h
  ·rename_i e
   have:p.2=k:=aI h;have:p=(a,k):=by rw[←e,←this]
   simp[this]
  ·exact ak _ (wV h)
theorem yR: ∀{l:List (Int×Int)} {a k:Int},Asc l→(a,k)∈l→yu l a=some k
 |[],a,k,_,h=>by simp at h
 |p::r,a,k,hA,h=>by
  obtain⟨h1,h2⟩:=bM.1 hA;rw[oI];rcases aB.1 h with rfl|h
  ·simp
  ·rw[if_neg,yR h2 h]
   have:=h1 _ h;simp at this;omega
theorem yS: ∀{l:List (Int×Int)} (a k b:Int),Asc l→yu (qh a k l) b=if a=b then some k else yu l b
 |[],a,k,b,_=>by rw[qh,oI]
 |p::r,a,k,b,h=>by
  obtain⟨h1,h2⟩:=bM.1 h;unfold qh;split
  ·rw[oI]
  ·split
   ·rename_i e
    rw[oI,oI];by_cases hb:a=b
    ·simp[hb]
    ·rw[if_neg (by simpa using hb),if_neg (by simpa using hb),if_neg om]
   ·rw[oI,oI,yS a k b h2]
    by_cases hb:p.1=b
    ·rw[if_pos hb,if_pos hb,if_neg om]
    ·rw[if_neg hb,if_neg hb]
def Blk (x:Nat×Nat):Prop:=x.2≤6∧x.1 % 2 ^ x.2=0
def Inn (p:Nat) (x:Nat×Nat):Prop:=x.1≤p∧p<x.1+2 ^ x.2
instance (p:Nat) (x:Nat×Nat):Decidable (Inn p x):=inferInstanceAs (Decidable (_∧_))
def budN (x:Nat×Nat):Nat:=if x.1 / 2 ^ x.2 % 2=0 then x.1+2 ^ x.2 else x.1-2 ^ x.2
theorem Sw {k:Nat} (h:k≤6):(k=0∧2 ^ k=1)∨(k=1∧2 ^ k=2)∨(k=2∧2 ^ k=4)∨(k=3∧2 ^ k=8)∨(k=4∧2 ^ k=16)∨(k=5∧2 ^ k=32)∨(k=6∧2 ^ k=64):=by
 rcases k with _|_|_|_|_|_|_|k;all_goals first|omega|simp
structure Tiles (n:Nat) (L:List (Nat×Nat)):Prop where
 blk: ∀x∈L,Blk x
 cov: ∀p,p<n→∃x∈L,Inn p x
 one: ∀x∈L,∀y∈L,∀p,Inn p x→Inn p y→x=y
 bound: ∀x∈L,x.1+2 ^ x.2≤n
def Apart (L:List (Nat×Nat)):Prop:=∀x∈L,x.2<6→(budN x,x.2)∉L
theorem half_blk {a k:Nat} (h:Blk (a,k+1)):Blk (a,k)∧Blk (a+2 ^ k,k)∧∀p,Inn p (a,k+1)↔(Inn p (a,k)∨Inn p (a+2 ^ k,k)):=by
 obtain⟨hk,ha⟩:=h;unfold Blk Inn;simp only at*
 rcases Sw (show k≤6 by omega) with⟨rfl,e⟩|⟨rfl,e⟩|⟨rfl,e⟩|⟨rfl,e⟩|⟨rfl,e⟩|⟨rfl,e⟩|⟨rfl,e⟩;all_goals first
  |omega
  |(simp only[Nat.reduceAdd,Nat.reducePow] at*
    refine⟨⟨om,om⟩,⟨om,om⟩,fun p=>om⟩)
theorem Ci {a k:Nat} (p:Nat):Inn p (a,k)→¬Inn p (a+2 ^ k,k):=by
 unfold Inn;simp only;omega
theorem Tiles.split {n:Nat} {L M:List (Nat×Nat)} (h:Tiles n L) {a k:Nat} (hx:(a,k+1)∈L)
 (hM: ∀z,z∈M↔(z∈L∧z≠(a,k+1))∨z=(a,k)∨z=(a+2 ^ k,k)):Tiles n M:=by
 obtain⟨b1,b2,hp⟩:=half_blk (h.blk _ hx);have hb:=h.bound _ hx;have e2:2 ^ (k+1)=2 ^ k+2 ^ k:=by rw[Nat.pow_succ];omega
 simp only[e2] at hb;have hpos:0<2 ^ k:=Nat.pos_of_ne_zero sI;refine⟨fun z hz=> ?_,fun p hpn=> ?_,fun x hx' y hy' p px py=> ?_,fun z hz=> ?_⟩
 ·rcases(hM z).1 hz with⟨h1,_⟩|rfl|rfl
  ·exact h.blk z h1
  ·exact b1
  ·exact b2
 ·obtain⟨z,hz,pz⟩:=h.cov p hpn
  by_cases e:z=(a,k+1)
  ·subst e
   rcases(hp p).1 pz with q|q
   ·exact⟨_,(hM _).2 (.inr (.inl rfl)),q⟩
   ·exact⟨_,(hM _).2 (.inr (.inr rfl)),q⟩
  ·exact⟨z,(hM z).2 (.inl ⟨hz,e⟩),pz⟩
 ·rcases(hM x).1 hx' with⟨h1,n1⟩|rfl|rfl<;>rcases(hM y).1 hy' with⟨h2,n2⟩|rfl|rfl
  ·exact h.one x h1 y h2 p px py
  ·exact absurd (h.one x h1 _ hx p px ((hp p).2 (.inl py))) n1
  ·exact absurd (h.one x h1 _ hx p px ((hp p).2 (.inr py))) n1
  ·exact absurd (h.one y h2 _ hx p py ((hp p).2 (.inl px))) n2
  ·rfl
  ·exact absurd py (Ci p px)
  ·exact absurd (h.one y h2 _ hx p py ((hp p).2 (.inr px))) n2
  ·exact absurd px (Ci p py)
  ·rfl
 ·rcases(hM z).1 hz with⟨h1,_⟩|rfl|rfl
  ·exact h.bound z h1
  ·show a+2 ^ k≤n;omega
  ·show a+2 ^ k+2 ^ k≤n;omega
def nt (p:Int×Int):Nat×Nat:=(p.1.toNat,p.2.toNat)
theorem nt_inj {p q:Int×Int} (hp:0≤p.1∧0≤p.2) (hq:0≤q.1∧0≤q.2) (h:nt p=nt q):p=q:=by
 obtain⟨a,k⟩:=p;obtain⟨b,m⟩:=q;simp only[nt,Prod.mk.injEq] at*
 exact⟨om,om⟩
theorem Cj {k:Int} (_:0≤k):sz k=((2 ^ k.toNat:Nat):Int):=by simp[sz]
theorem oJ (k:Int):1≤sz k:=by
 have:0<2 ^ k.toNat:=Nat.pos_of_ne_zero sI;have e:sz k=((2 ^ k.toNat:Nat):Int):=by simp[sz]
 omega
def BlkI (x:Int×Int):Prop:=0≤x.1∧0≤x.2∧x.2≤6∧x.1 % sz x.2=0
def Ng (p:Int) (x:Int×Int):Prop:=x.1≤p∧p<x.1+sz x.2
structure TI (n:Int) (L:List (Int×Int)):Prop where
 nn: ∀x∈L,0≤x.1∧0≤x.2
 t:Tiles n.toNat (L.map nt)
def ApI (L:List (Int×Int)):Prop:=∀x∈L,x.2<6→(Bu x.1 x.2,x.2)∉L
theorem TI.mem {n:Int} {L:List (Int×Int)} (_:TI n L) {x:Int×Int} (hx:x∈L):nt x∈L.map nt:=bJ.2 ⟨x,hx,rfl⟩
theorem blkI_of {x:Int×Int} (h0:0≤x.1∧0≤x.2) (h:Blk (nt x)):BlkI x:=by
 obtain⟨a,k⟩:=x;obtain⟨h1,h2⟩:=h;simp only[nt] at*
 refine⟨h0.1,h0.2,(by show k≤6;omega),?_⟩;show a % sz k=0;rw[Cj h0.2,show a=((a.toNat:Nat):Int) by omega,←Int.natCast_emod,h2];rfl
theorem blk_nt {x:Int×Int} (h:BlkI x):Blk (nt x):=by
 obtain⟨a,k⟩:=x;obtain⟨h0,h1,h2,h3⟩:=h;simp only[nt] at*
 refine⟨(by show k.toNat≤6;omega),?_⟩;show a.toNat % 2 ^ k.toNat=0;rw[Cj h1,show a=((a.toNat:Nat):Int) by omega,←Int.natCast_emod] at h3;exact Int.ofNat.inj h3
theorem Ck {p:Int} {x:Int×Int} (h0:0≤x.1∧0≤x.2) (hp:0≤p):Inn p.toNat (nt x)↔Ng p x:=by
 unfold Inn Ng nt;rw[Cj h0.2];simp only;omega
theorem TI.blk {n:Int} {L:List (Int×Int)} (h:TI n L) {x:Int×Int} (hx:x∈L):BlkI x:=blkI_of (h.nn x hx) (h.t.blk _ (h.mem hx))
theorem TI.bound {n:Int} {L:List (Int×Int)} (h:TI n L) {x:Int×Int} (hx:x∈L):x.1+sz x.2≤n:=by
 have:=h.t.bound _ (h.mem hx);have h0:=h.nn x hx;simp only[nt] at this;have hpos:0<2 ^ x.2.toNat:=Nat.pos_of_ne_zero sI;rw[Cj h0.2];omega
theorem TI.cov {n:Int} {L:List (Int×Int)} (h:TI n L) {p:Int} (p0:0≤p) (pn:p<n): ∃x∈L,Ng p x:=by
 obtain⟨y,hy,py⟩:=h.t.cov p.toNat om;obtain⟨x,hx,rfl⟩:=bJ.1 hy;exact⟨x,hx,(Ck (h.nn x hx) p0).1 py⟩
theorem TI.one {n:Int} {L:List (Int×Int)} (h:TI n L) {x y:Int×Int} (hx:x∈L) (hy:y∈L) {p:Int} (px:Ng p x) (py:Ng p y):x=y:=by
 have p0:0≤p:=by have:=(h.nn x hx).1;have:=px.1;omega
 exact nt_inj (h.nn x hx) (h.nn y hy) (h.t.one _ (h.mem hx) _ (h.mem hy) p.toNat ((Ck (h.nn x hx) p0).2 px) ((Ck (h.nn y hy) p0).2 py))
theorem TI.same {n:Int} {L:List (Int×Int)} (h:TI n L) {x y:Int×Int} (hx:x∈L) (hy:y∈L) (e:x.1=y.1):x=y:=
 h.one hx hy (p:=x.1) ⟨cO _,by have:=oJ x.2;omega⟩ ⟨om,by have:=oJ y.2;omega⟩
theorem nt_iff {M:List (Int×Int)} {P:Int×Int→Prop} {Q:Nat×Nat→Prop} (hM: ∀z,z∈M↔P z) (hPQ: ∀z,P z→Q (nt z)) (hQP: ∀y,Q y→∃z,nt z=y∧P z):
 ∀y,y∈M.map nt↔Q y:=by
 intro y;constructor
 ·intro h
  obtain⟨z,hz,rfl⟩:=bJ.1 h;exact hPQ z ((hM z).1 hz)
 ·intro h
  obtain⟨z,rfl,hz⟩:=hQP y h;exact bJ.2 ⟨z,(hM z).2 hz,rfl⟩
theorem TI.split {n:Int} {L M:List (Int×Int)} (h:TI n L) {a k:Int} (k0:0≤k) (hx:(a,k+1)∈L)
 (hM: ∀z,z∈M↔(z∈L∧z≠(a,k+1))∨z=(a,k)∨z=(a+sz k,k)):TI n M:=by
 have a0:=(h.nn _ hx).1;simp only at a0;have sk:=oJ k;have nnM: ∀z∈M,0≤z.1∧0≤z.2:=fun z hz=>by
  rcases(hM z).1 hz with⟨h1,_⟩|rfl|rfl
  ·exact h.nn z h1
  ·exact⟨a0,k0⟩
  ·exact⟨(show(0:Int)≤a+sz k by omega),k0⟩
 have e1:nt (a,k+1)=(a.toNat,k.toNat+1):=by simp only[nt,Prod.mk.injEq];exact⟨trivial,om⟩
 have hsn:=Cj k0;have e2:nt (a+sz k,k)=(a.toNat+2 ^ k.toNat,k.toNat):=by
  simp only[nt,Prod.mk.injEq];exact⟨om,trivial⟩
 refine⟨nnM,h.t.split (a:=a.toNat) (k:=k.toNat) (e1▸h.mem hx) ?_⟩;refine nt_iff (P:=fun z=>(z∈L∧z≠(a,k+1))∨z=(a,k)∨z=(a+sz k,k)) hM ?_ ?_
 ·rintro z (⟨h1,h2⟩|rfl|rfl)
  ·exact .inl ⟨h.mem h1,fun e=>h2 (nt_inj (h.nn z h1) (h.nn _ hx) (e.trans e1.symm))⟩
  ·exact .inr (.inl rfl)
  ·exact .inr (.inr e2)
 ·rintro y (⟨h1,h2⟩|rfl|rfl)
  ·obtain⟨z,hz,rfl⟩:=bJ.1 h1
   exact⟨z,rfl,.inl ⟨hz,fun e=>h2 (by rw[e,e1])⟩⟩
  ·exact⟨(a,k),rfl,.inr (.inl rfl)⟩
  ·exact⟨(a+sz k,k),e2,.inr (.inr rfl)⟩
def yI (x:Int×Int):List (Int×Int)→Int×Int
 |[]=>x
 |y::r=>yI (if y.2<x.2 then y else x) r
def Bv (k:Int) (F:List (Int×Int)):List (Int×Int):=F.filter fun p=> !decide (p.2<k)
def mq (k:Int) (F:List (Int×Int)):Option (Int×Int):=match Bv k F with|[]=>none|x::r=>some (yI x r)
def tH:Nat→Int→Int→List (Int×Int)→List (Int×Int)
 |0,_,_,F=>F
 |d+1,a,k,F=>tH d a k (qh (a+sz (k+d)) (k+d) F)
def upF:Nat→Int→Int→List (Int×Int)→(Int×Int)×List (Int×Int)
 |0,a,k,F=>((a,k),F)
 |f+1,a,k,F=>if yu F (Bu a k)=some k then upF f (xV a k) (k+1) (rR (Bu a k) F) else((a,k),F)
def sJ (k:Int) (x:Int×Int) (F:List (Int×Int)):List (Int×Int):=tH (x.2-k).toNat x.1 k (rR x.1 F)
def giveF (a k:Int) (F:List (Int×Int)):List (Int×Int):=qh (upF (6-k).toNat a k F).1.1 (upF (6-k).toNat a k F).1.2 (upF (6-k).toNat a k F).2
def nI:List (Int×Int)→Int
 |[]=>0
 |x::r=>sz x.2+nI r
theorem Nh: ∀(x:Int×Int) (r:List (Int×Int)),yI x r∈x::r
 |x,[]=>by simp[yI]
 |x,y::r=>by
  unfold yI;rcases aB.1 (Nh (if y.2<x.2 then y else x) r) with h|h
  ·rw[h]
   split<;>simp
  ·exact ak _ (ak _ h)
theorem Ni {k:Int} {F:List (Int×Int)} {p:Int×Int}:p∈Bv k F↔p∈F∧k≤p.2:=by simp[Bv]
theorem nu {k:Int} {F:List (Int×Int)} {x:Int×Int} (h:mq k F=some x):x∈F∧k≤x.2:=by
 unfold mq at h;split at h
 ·cases h
 ·rename_i y r e
  obtain rfl:=aI h;exact Ni.1 (e▸Nh y r)
theorem Cm {k:Int} {F:List (Int×Int)} (h:mq k F=none): ∀p∈F,p.2<k:=by
 intro p hp;unfold mq at h;split at h
 ·rename_i e
  rcases Int.lt_or_le p.2 k with h'|h'
  ·exact h'
  ·have:=Ni.2 ⟨hp,h'⟩
   rw[e] at this;cases this
 ·cases h
theorem Sy {l:List (Int×Int)} (h:Asc l) (z:Int×Int):z∈l↔yu l z.1=some z.2:=⟨fun hz=>yR h hz,fun hz=>wV hz⟩
theorem Du {l:List (Int×Int)} (h:Asc l) {a k:Int} {z:Int×Int}:z∈qh a k l↔z=(a,k)∨(z∈l∧z.1≠a):=by
 obtain⟨b,m⟩:=z;rw[Sy (h.put a k),yS a k _ h,Sy h];simp only[Prod.mk.injEq];by_cases e:a=b
 ·subst e
  rw[if_pos rfl];constructor
  ·intro q;exact .inl ⟨rfl,(aI q).symm⟩
  ·rintro(⟨_,q⟩|⟨_,q⟩)
   ·rw[q]
   ·exact absurd rfl q
 ·rw[if_neg e]
  constructor
  ·intro q;exact .inr ⟨q,fun x=>e x.symm⟩
  ·rintro(⟨q,_⟩|⟨q,_⟩)
   ·exact absurd q.symm e
   ·exact q
structure Inv (n:Int) (F T:List (Int×Int)):Prop where
 n1:1≤n
 n2:n≤256
 fa:Asc F
 ta:Asc T
 t:TI n (F++T)
 dis: ∀p∈F,p∉T
 ap:ApI F
structure uM (n:Int) (F T:List (Int×Int)) (x:Int×Int):Prop where
 n1:1≤n
 n2:n≤256
 fa:Asc F
 ta:Asc T
 t:TI n (x::(F++T))
 dis: ∀p∈F,p∉T
 nf:x∉F
 ntk:x∉T
 ap:ApI F
theorem Cn (x:Int×Int):Ng x.1 x:=⟨cO _,by have:=oJ x.2;omega⟩
theorem Inv.qR {n:Int} {F T:List (Int×Int)} (_:Inv n F T) {x:Int×Int} (hx:x∈F):x∈F++T:=av _ hx
theorem Inv.memT {n:Int} {F T:List (Int×Int)} (_:Inv n F T) {x:Int×Int} (hx:x∈T):x∈F++T:=aj _ hx
theorem Inv.hand {n:Int} {F T:List (Int×Int)} (h:Inv n F T) {x:Int×Int} (hx:x∈F):uM n (rR x.1 F) T x:=by
 have hd: ∀z,z∈rR x.1 F↔z∈F∧z≠x:=fun z=>by
  rw[Nf];exact⟨fun⟨q,r⟩=>⟨q,fun e=>r (by rw[e])⟩,fun⟨q,r⟩=>⟨q,fun e=>r (h.t.same (h.qR q) (h.qR hx) e)⟩⟩
 refine⟨h.n1,h.n2,h.fa.del _,h.ta,?_,fun p hp=>h.dis p ((hd p).1 hp).1,fun q=>((hd x).1 q).2 rfl,h.dis x hx,fun y hy h6 hb=>h.ap y ((hd y).1 hy).1 h6 ((hd _).1 hb).1⟩;have hm: ∀z,z∈x::(rR x.1 F++T)↔z∈F++T:=fun z=>by
  simp only[aB,aD,hd];constructor
  ·rintro(rfl|⟨q,_⟩|q)
   ·exact .inl hx
   ·exact .inl q
   ·exact .inr q
  ·rintro(q|q)
   ·by_cases e:z=x
    ·exact .inl e
    ·exact .inr (.inl ⟨q,e⟩)
   ·exact .inr (.inr q)
 have t:=h.t;have hm2: ∀y,y∈(x::(rR x.1 F++T)).map nt↔y∈(F++T).map nt:=fun y=>by
  simp only[bJ,hm]
 exact⟨fun z hz=>t.nn z ((hm z).1 hz),⟨fun y hy=>t.t.blk y ((hm2 y).1 hy),fun p hp=>by obtain⟨y,hy,q⟩:=t.t.cov p hp;exact⟨y,(hm2 y).2 hy,q⟩,
  fun y hy z hz p=>t.t.one y ((hm2 y).1 hy) z ((hm2 z).1 hz) p,fun y hy=>t.t.bound y ((hm2 y).1 hy)⟩⟩
theorem TI.congr {n:Int} {L M:List (Int×Int)} (t:TI n L) (hm: ∀z,z∈M↔z∈L):TI n M:=by
 have hm2: ∀y,y∈M.map nt↔y∈L.map nt:=fun y=>by simp only[bJ,hm]
 exact⟨fun z hz=>t.nn z ((hm z).1 hz),⟨fun y hy=>t.t.blk y ((hm2 y).1 hy),fun p hp=>by obtain⟨y,hy,q⟩:=t.t.cov p hp;exact⟨y,(hm2 y).2 hy,q⟩,
  fun y hy z hz p=>t.t.one y ((hm2 y).1 hy) z ((hm2 z).1 hz) p,fun y hy=>t.t.bound y ((hm2 y).1 hy)⟩⟩
theorem uM.other {n:Int} {F T:List (Int×Int)} {x:Int×Int} (h:uM n F T x) {z:Int×Int} (hz:z∈F++T):z.1≠x.1:=fun e=>by
 have:=h.t.same (ak _ hz) (aG ..) e;subst this;rcases aD.1 hz with q|q
 ·exact h.nf q
 ·exact h.ntk q
theorem uM.blk {n:Int} {F T:List (Int×Int)} {x:Int×Int} (h:uM n F T x):BlkI x:=h.t.blk (aG ..)
theorem uM.putT {n:Int} {F T:List (Int×Int)} {a k:Int} (h:uM n F T (a,k)):Inv n F (qh a k T):=by
 have hd: ∀z,z∈qh a k T↔z=(a,k)∨z∈T:=fun z=>by
  rw[Du h.ta];exact⟨fun q=>q.imp id And.left,fun q=>q.imp id fun r=>⟨r,h.other (aj _ r)⟩⟩
 refine⟨h.n1,h.n2,h.fa,h.ta.put _ _,h.t.congr fun z=> ?_,fun p hp q=> ?_,h.ap⟩
 ·simp only[aB,aD,hd]
  constructor
  ·rintro(q|q|q)
   ·exact .inr (.inl q)
   ·exact .inl q
   ·exact .inr (.inr q)
  ·rintro(q|q|q)
   ·exact .inr (.inl q)
   ·exact .inl q
   ·exact .inr (.inr q)
 ·rcases(hd p).1 q with rfl|q
  ·exact h.nf hp
  ·exact h.dis p hp q
theorem Nj {a k:Int} (k0:0≤k) (k5:k≤5) (h:a % sz (k+1)=0):a % sz k=0∧Bu a k=a+sz k∧xV a k=a∧Bu (a+sz k) k=a∧(a+sz k) % sz k=0:=by
 have e:k=0∨k=1∨k=2∨k=3∨k=4∨k=5:=om;unfold Bu xV;rcases e with rfl|rfl|rfl|rfl|rfl|rfl<;>simp only[sz0,sz1,sz2,sz3,sz4,sz5,sz6,show(0:Int)+1=1 from rfl,show(1:Int)+1=2 from rfl,show(2:Int)+1=3 from rfl,show(3:Int)+1=4 from rfl,show(4:Int)+1=5 from rfl,show(5:Int)+1=6 from rfl] at* <;>(refine⟨?_,?_,?_,?_,?_⟩<;>omega)
theorem uM.cut {n:Int} {F T:List (Int×Int)} {a k:Int} (k0:0≤k) (h:uM n F T (a,k+1)):uM n (qh (a+sz k) k F) T (a,k):=by
 obtain⟨b0,b1,b2,b3⟩:=h.blk;have bn:=h.t.bound (aG ..);have sk:=oJ k;have n2:=h.n2;simp only at b0 b1 b2 b3 bn;have e2:=wh k0 om;obtain⟨m1,m2,m3,m4,m5⟩:=Nj k0 om b3;have hno: ∀z:Int×Int,z∈F++T→∀p,Ng p z→¬(a≤p∧p<a+sz (k+1)):=fun z hz p hp hq=>by
  have:=h.t.one (ak _ hz) (aG ..) hp hq;exact h.other hz (by rw[this])
 have hd: ∀z,z∈qh (a+sz k) k F↔z=(a+sz k,k)∨z∈F:=fun z=>by
  rw[Du h.fa];refine⟨fun q=>q.imp id And.left,fun q=>q.imp id fun r=>⟨r,fun e=> ?_⟩⟩;exact hno z (av _ r) z.1 (Cn z) ⟨om,om⟩
 have hlow:(a,k)∉F++T:=fun q=>hno _ q a (Cn (a,k)) ⟨om,om⟩
 have hhigh:(a+sz k,k)∉F++T:=fun q=>hno _ q (a+sz k) (Cn (a+sz k,k)) ⟨om,om⟩
 refine⟨h.n1,h.n2,h.fa.put _ _,h.ta,h.t.split (a:=a) (k:=k) k0 (aG ..) fun z=> ?_,fun p hp q=> ?_,fun q=> ?_,fun q=>hlow (aj _ q),fun y hy h6 hbad=> ?_⟩
 ·simp only[aB,aD,hd]
  constructor
  ·rintro(q|(q|q)|q)
   ·exact .inr (.inl q)
   ·exact .inr (.inr q)
   ·exact .inl ⟨.inr (.inl q),fun e=>h.nf (e▸q)⟩
   ·exact .inl ⟨.inr (.inr q),fun e=>h.ntk (e▸q)⟩
  ·rintro(⟨q|q|q,r⟩|q|q)
   ·exact absurd q r
   ·exact .inr (.inl (.inr q))
   ·exact .inr (.inr q)
   ·exact .inl q
   ·exact .inr (.inl (.inl q))
 ·rcases(hd p).1 hp with rfl|hp
  ·exact hhigh (aj _ q)
  ·exact h.dis p hp q
 ·rcases(hd _).1 q with e|q
  ·have:a=a+sz k:=congrArg Prod.fst e
   omega
  ·exact hlow (av _ q)
 ·rcases(hd y).1 hy with rfl|hy
  ·simp only[m4] at hbad
   rcases(hd _).1 hbad with e|q
   ·have:a=a+sz k:=congrArg Prod.fst e
    omega
   ·exact hlow (av _ q)
  ·rcases(hd _).1 hbad with e|hbad
   ·have e1:Bu y.1 y.2=a+sz k:=congrArg Prod.fst e
    have e2':y.2=k:=congrArg Prod.snd e;have by':=h.t.blk (ak _ (av _ hy));have bny:=h.t.bound (ak _ (av T hy));have:=oJ y.2;obtain⟨_,hinv,_⟩:=kin by'.1 om by'.2.1 om by'.2.2.2;rw[e1,e2',m4] at hinv;refine hlow (av _ ?_);have:y=(a,k):=Prod.ext hinv.symm e2';exact this▸hy
   ·exact h.ap y hy h6 hbad
theorem uM.down {n:Int} {T:List (Int×Int)} {a k:Int} (k0:0≤k): ∀(d:Nat) {F:List (Int×Int)},uM n F T (a,k+d)→uM n (tH d a k F) T (a,k)
 |0,F,h=>by simpa[tH] using h
 |d+1,F,h=>by
  unfold tH;refine uM.down k0 d (uM.cut om ?_);have e:k+((d+1:Nat):Int)=k+d+1:=om;rw[e] at h;exact h
theorem Inv.take {n:Int} {F T:List (Int×Int)} (h:Inv n F T) {k:Int} (k0:0≤k) {x:Int×Int} (hx:mq k F=some x):Inv n (sJ k x F) (qh x.1 k T):=by
 obtain⟨h1,h2⟩:=nu hx;have hh:=h.hand h1;obtain⟨a,m⟩:=x;simp only at h2;refine uM.putT (uM.down k0 _ ?_);rwa [show k+(((m-k).toNat:Nat):Int)=m by omega]
theorem Asc.len: ∀{l:List (Int×Int)} {a e:Int},Asc l→(∀p∈l,a≤p.1∧p.1<e)→a≤e→(l.length:Int)≤e-a
 |[],a,e,_,_,h=>by simp;omega
 |p::r,a,e,hA,hr,h=>by
  obtain⟨h1,h2⟩:=bM.1 hA;have hp:=hr p sI;have:=Asc.len (a:=p.1+1) (e:=e) h2 (fun q hq=>⟨by have:=h1 q hq;omega,(hr q (by simp[hq])).2⟩) om;simp only[dF];omega
theorem Inv.rngF {n:Int} {F T:List (Int×Int)} (h:Inv n F T) {p:Int×Int} (hp:p∈F):0≤p.1∧p.1<256∧0≤p.2∧p.2≤6:=by
 obtain⟨b0,b1,b2,_⟩:=h.t.blk (h.qR hp);have:=h.t.bound (h.qR hp);have:=oJ p.2;have:=h.n2;exact⟨b0,om,b1,b2⟩
theorem Inv.rngT {n:Int} {F T:List (Int×Int)} (h:Inv n F T) {p:Int×Int} (hp:p∈T):0≤p.1∧p.1<256∧0≤p.2∧p.2≤6:=by
 obtain⟨b0,b1,b2,_⟩:=h.t.blk (h.memT hp);have:=h.t.bound (h.memT hp);have:=oJ p.2;have:=h.n2;exact⟨b0,om,b1,b2⟩
theorem uM.rng {n:Int} {F T:List (Int×Int)} {x:Int×Int} (h:uM n F T x) {p:Int×Int} (hp:p∈x::(F++T)):0≤p.1∧p.1<256∧0≤p.2∧p.2≤6:=by
 obtain⟨b0,b1,b2,_⟩:=h.t.blk hp;have:=h.t.bound hp;have:=oJ p.2;have:=h.n2;exact⟨b0,om,b1,b2⟩
theorem rM {l:List (Int×Int)} (hA:Asc l) (hr: ∀p∈l,0≤p.1∧p.1<256∧0≤p.2∧p.2≤6):l.length≤256:=by
 have:=hA.len (a:=0) (e:=256) (fun p hp=>⟨(hr p hp).1,(hr p hp).2.1⟩) om;omega
theorem Inv.lenF {n:Int} {F T:List (Int×Int)} (h:Inv n F T):F.length≤256:=rM h.fa fun _=>h.rngF
theorem Inv.lenT {n:Int} {F T:List (Int×Int)} (h:Inv n F T):T.length≤256:=rM h.ta fun _=>h.rngT
theorem Chain.low {e:Int}: ∀{a:Int} {l:List (Int×Int)},Chain e a l→0≤a→∀x∈l,a≤x.1∧x.1+sz x.2≤e∧BlkI x
 |_,[],_,_,x,hx=>by cases hx
 |a,b::r,⟨h1,h2,h3,h4,h5,h6⟩,h0,x,hx=>by
  have:=oJ b.2;rcases aB.1 hx with rfl|hx
  ·exact⟨om,om,⟨om,h2,h3,by rw[h1];exact h4⟩⟩
  ·obtain⟨c1,c2,c3⟩:=Chain.low h6 om x hx
   exact⟨om,c2,c3⟩
theorem Chain.cov {e:Int}: ∀{a:Int} {l:List (Int×Int)},Chain e a l→∀p,a≤p→p<e→∃x∈l,Ng p x
 |_,[],h,p,h1,h2=>by simp only[Chain] at h;omega
 |a,b::r,⟨h1,_,_,_,_,h6⟩,p,p1,p2=>by
  by_cases h:p<a+sz b.2
  ·exact⟨b,sI,⟨om,om⟩⟩
  ·obtain⟨x,hx,q⟩:=Chain.cov h6 p om p2
   exact⟨x,by simp[hx],q⟩
theorem Chain.asc {e:Int}: ∀{a:Int} {l:List (Int×Int)},Chain e a l→0≤a→l.Pairwise fun x y=>x.1+sz x.2≤y.1
 |_,[],_,_=>List.Pairwise.nil
 |a,b::r,⟨h1,_,_,_,_,h6⟩,h0=>by
  have:=oJ b.2;exact bM.2 ⟨fun y hy=>by have:=(Chain.low h6 om y hy).1;omega,Chain.asc h6 om⟩
theorem TI.mk' {n:Int} {L:List (Int×Int)} (hb: ∀x∈L,BlkI x) (hc: ∀p,0≤p→p<n→∃x∈L,Ng p x) (h1: ∀x∈L,∀y∈L,∀p,Ng p x→Ng p y→x=y) (hn: ∀x∈L,x.1+sz x.2≤n):TI n L:=by
 have nn: ∀x∈L,0≤x.1∧0≤x.2:=fun x hx=>⟨(hb x hx).1,(hb x hx).2.1⟩
 have back: ∀y∈L.map nt,∃x∈L,nt x=y:=fun y hy=>by simpa using hy
 refine⟨nn,⟨fun y hy=> ?_,fun p hp=> ?_,fun y hy z hz p py pz=> ?_,fun y hy=> ?_⟩⟩
 ·obtain⟨x,hx,rfl⟩:=back y hy
  exact blk_nt (hb x hx)
 ·obtain⟨x,hx,q⟩:=hc p om om
  refine⟨nt x,bJ.2 ⟨x,hx,rfl⟩,?_⟩;have:=(Ck (p:=p) (nn x hx) om).2 q;simpa using this
 ·obtain⟨x,hx,rfl⟩:=back y hy
  obtain⟨x',hx',rfl⟩:=back z hz;have q1:=(Ck (p:=(p:Int)) (nn x hx) om).1 (by simpa using py);have q2:=(Ck (p:=(p:Int)) (nn x' hx') om).1 (by simpa using pz);rw[h1 x hx x' hx' _ q1 q2]
 ·obtain⟨x,hx,rfl⟩:=back y hy
  have:=hn x hx;have h0:=nn x hx;rw[Cj h0.2] at this;show x.1.toNat+2 ^ x.2.toNat≤n.toNat;omega
theorem EJ {L:List (Int×Int)} (h:L.Pairwise fun x y=>x.1+sz x.2≤y.1): ∀x∈L,∀y∈L,∀p,Ng p x→Ng p y→x=y:=by
 induction h with
 |nil=>intro x hx;cases hx
 | @cons b r hb _ ih=>
   intro x hx y hy p px py;unfold Ng at px py;rcases aB.1 hx with rfl|hx<;>rcases aB.1 hy with rfl|hy
   ·rfl
   ·have:=hb _ hy;omega
   ·have:=hb _ ‹_∈r›;omega
   ·exact ih x ‹_› y ‹_› p px py
theorem Chain.tiles {n:Int} {l:List (Int×Int)} (h:Chain n 0 l):TI n l:=
 TI.mk' (fun x hx=>(h.low (cO _) x hx).2.2) (fun p p0 pn=>h.cov p p0 pn) (EJ (h.asc (cO _))) (fun x hx=>(h.low (cO _) x hx).2.1)
theorem Nk: ∀(f:Nat) (a n:Int),n.toNat≤f→∀x∈uH a n,x.2=vR x.1 (a+n-x.1)∧x.1<a+n
 |0,a,n,h,x,hx=>by rw[qA om] at hx;cases hx
 |f+1,a,n,h,x,hx=>by
  by_cases h0:n≤0
  ·rw[qA h0] at hx;cases hx
  ·rw[uL om] at hx
   have:=oJ (vR a n);rcases aB.1 hx with rfl|hx
   ·refine⟨?_,(show a<a+n by omega)⟩
    show vR a n=vR a (a+n-a);rw[show a+n-a=n by omega]
   ·obtain⟨c1,c2⟩:=Nk f _ _ om x hx
    rw[show a+sz (vR a n)+(n-sz (vR a n))=a+n by omega] at c1 c2;exact⟨c1,c2⟩
theorem cov_ap {n:Int} (n0:0≤n) (n2:n≤256):ApI (uH 0 n):=by
 have hch:=tF n.toNat 0 n (aH _) n0;rw[show(0:Int)+n=n by omega] at hch;have key: ∀a k:Int,(a,k)∈uH 0 n→k<6→a % sz (k+1)=0→(a+sz k,k)∉uH 0 n:=by
  intro a k h1 h6 hm h2;obtain⟨_,k0,_,_⟩:=(hch.low (cO _) _ h1).2.2;have e:=(Nk n.toNat 0 n (aH _) _ h1).1;have hb:=(hch.low (cO _) _ h2).2.1;simp only at e hb k0;have e2:=wh k0 om;exact Dr (a:=a) (n:=0+n-a) (k:=k+1) om om ⟨hm,om⟩
 intro x hx h6 hb;obtain⟨a,k⟩:=x;obtain⟨b1,b2,b0,k0,k6,hm⟩:=hch.low (cO _) _ hx;have sk:=oJ k;simp only at b1 b2 b0 k0 k6 hm h6 hb;obtain⟨_,hinv,hpar,⟨_,_,p2⟩,hcase,_⟩:=kin b0 om k0 om hm;rcases hcase with⟨c1,c2⟩|⟨c1,c2⟩
 ·rw[c1] at c2 p2
  exact key a k hx h6 p2 (c2▸hb)
 ·rw[c1] at c2 p2
  exact key _ k hb h6 p2 (by rw[←c2];exact hx)
theorem EK {L:List (Int×Int)} (h:L.Pairwise fun x y=>x.1+sz x.2≤y.1):Asc L:=h.imp fun {x y} q=>by have:=oJ x.2;omega
theorem cov_asc {n:Int} (n0:0≤n):Asc (uH 0 n):=EK ((tF n.toNat 0 n (aH _) n0).asc (cO _))
theorem Inv.start {n:Int} (n1:1≤n) (n2:n≤256):Inv n (uH 0 n) []:=by
 have hch:=tF n.toNat 0 n (aH _) om;rw[show(0:Int)+n=n by omega] at hch;exact⟨n1,n2,cov_asc om,List.Pairwise.nil,by rw[dB];exact hch.tiles,(fun _ _ h=>by cases h),cov_ap om n2⟩
theorem ES: ∀{l:List (Int×Int)} {a:Int} (k:Int),(∀p∈l,p.1<a)→qh a k l=l++[(a,k)]
 |[],_,_,_=>rfl
 |p::r,a,k,h=>by
  have:=h p sI;unfold qh;rw[if_neg om,if_neg om,ES k fun q hq=>h q (by simp[hq])];rfl
theorem wB: ∀l m:List (Int×Int),nI (l++m)=nI l+nI m
 |[],m=>by simp[nI]
 |x::r,m=>by simp only[List.cons_append,nI,wB r m];omega
theorem nZ: ∀l:List (Int×Int),0≤nI l
 |[]=>cO _
 |x::r=>by have:=nZ r;have:=oJ x.2;simp only[nI];omega
theorem Nl: ∀{l:List (Int×Int)} {a:Int} (k:Int),(∀p∈l,p.1≠a)→nI (qh a k l)=sz k+nI l
 |[],a,k,_=>by simp[qh,nI]
 |p::r,a,k,h=>by
  have h1:=h p sI;unfold qh;by_cases c:a<p.1
  ·rw[if_pos c];simp only[nI]
  ·rw[if_neg c,if_neg (fun e=>h1 e.symm)]
   have:=Nl (l:=r) k fun q hq=>h q (ak _ hq)
   simp only[nI];omega
theorem Nn: ∀{l:List (Int×Int)} {x:Int×Int},Asc l→x∈l→nI (rR x.1 l)=nI l-sz x.2
 |[],x,_,h=>by cases h
 |p::r,x,hA,h=>by
  obtain⟨h1,h2⟩:=bM.1 hA;rcases aB.1 h with rfl|h
  ·have e:rR x.1 (x::r)=r:=by
    have:rR x.1 (x::r)=rR x.1 r:=by simp[rR]
    rw[this,rR,dR.2 fun q hq=>by have:=h1 q hq;simp;omega]
   rw[e];simp only[nI];omega
  ·have:=h1 x h
   have e:rR x.1 (p::r)=p::rR x.1 r:=by
    have: ¬p.1=x.1:=om;simp[rR,this]
   rw[e];simp only[nI,Nn h2 h];omega
theorem ET {e:Int}: ∀{a:Int} {l:List (Int×Int)},Chain e a l→nI l=e-a
 |_,[],h=>by simp only[Chain] at h;simp[nI];omega
 |a,b::r,⟨_,_,_,_,_,h6⟩=>by simp only[nI,ET h6];omega
theorem sum_le {e:Int}: ∀{a:Int} {l:List (Int×Int)},a≤e→(l.Pairwise fun x y=>x.1+sz x.2≤y.1)→(∀x∈l,a≤x.1∧x.1+sz x.2≤e)→nI l≤e-a
 |a,[],h,_,_=>by simp[nI];omega
 |a,b::r,h,hP,hr=>by
  obtain⟨h1,h2⟩:=bM.1 hP;have hb:=hr b sI;have:=sum_le (a:=b.1+sz b.2) (e:=e) om h2 fun x hx=>⟨h1 x hx,(hr x (by simp[hx])).2⟩
  simp only[nI];omega
theorem Sz {n:Int} {L l:List (Int×Int)} (t:TI n L) (hs: ∀x∈l,x∈L) (hA:Asc l):l.Pairwise fun x y=>x.1+sz x.2≤y.1:=by
 refine hA.imp_of_mem fun {x y} hx hy q=> ?_
 rcases Int.lt_or_le y.1 (x.1+sz x.2) with h|h
 ·have:=t.one (hs x hx) (hs y hy) (p:=y.1) ⟨om,h⟩ (Cn y)
  rw[this] at q;omega
 ·exact h
theorem Inv.sumF {n:Int} {F T:List (Int×Int)} (h:Inv n F T):0≤nI F∧nI F≤n:=by
 refine⟨nZ F,?_⟩;have:=sum_le (a:=0) (e:=n) (by have:=h.n1;omega) (Sz h.t (fun x hx=>h.qR hx) h.fa) fun x hx=>⟨(h.rngF hx).1,h.t.bound (h.qR hx)⟩
 omega
theorem uM.Np {n:Int} {T:List (Int×Int)} {a k:Int} (k0:0≤k): ∀(d:Nat) {F:List (Int×Int)},uM n F T (a,k+d)→nI (tH d a k F)=nI F+sz (k+d)-sz k
 |0,F,_=>by simp[tH]
 |d+1,F,h=>by
  have e:k+((d+1:Nat):Int)=k+d+1:=om;rw[e] at h;have hc:=uM.cut om h;have b2:=h.blk.2.2.1;simp only at b2;unfold tH;rw[uM.Np k0 d hc,e,wh om om,Nl _ fun p hp q=> ?_]
  ·omega
  ·have:=h.t.one (ak _ (av _ hp)) (aG ..) (p:=p.1) (Cn p)
    ⟨by have:=oJ (k+d);omega,by show p.1<a+sz (k+d+1);have:=oJ (k+d);have:=wh (k:=k+d) om om;omega⟩
   exact h.nf (this▸hp)
theorem Inv.Dv {n:Int} {F T:List (Int×Int)} (h:Inv n F T) {k:Int} (k0:0≤k) {x:Int×Int} (hx:mq k F=some x):nI (sJ k x F)=nI F-sz k:=by
 obtain⟨h1,h2⟩:=nu hx;have hh:=h.hand h1;have hd:=Nn h.fa h1;obtain⟨a,m⟩:=x;simp only at h2 hd;have e:k+(((m-k).toNat:Nat):Int)=m:=om;have:=uM.Np (a:=a) k0 (m-k).toNat (F:=rR a F) (T:=T) (n:=n) (by rw[e];exact hh);rw[e] at this;show nI (tH (m-k).toNat a k (rR a F))=_;omega
theorem Dw: ∀{l:List (Int×Int)} {a k:Int} {j:Nat},(∀x∈l.take j,x.1<a)→(∀x∈l.drop j,a<x.1)→qh a k l=l.take j++(a,k)::l.drop j
 |[],a,k,j,_,_=>by simp[qh]
 |p::r,a,k,0,_,h2=>by
  have:=h2 p sI;unfold qh;rw[if_pos this];rfl
 |p::r,a,k,j+1,h1,h2=>by
  have:=h1 p sI;unfold qh;rw[if_neg om,if_neg om,Dw (j:=j) (fun x hx=>h1 x (by simp[hx])) (fun x hx=>h2 x (by simpa using hx))];rfl
theorem Nq: ∀{l:List (Int×Int)} {z:Int×Int} {j:Nat},Asc l→l[j]?=some z→rR z.1 l=l.take j++l.drop (j+1)
 |[],z,j,_,h=>by simp at h
 |p::r,z,0,hA,h=>by
  obtain⟨h1,h2⟩:=bM.1 hA;simp at h;subst h;have:rR p.1 (p::r)=rR p.1 r:=by simp[rR]
  rw[this,rR,dR.2 fun q hq=>by have:=h1 q hq;simp;omega];rfl
 |p::r,z,j+1,hA,h=>by
  obtain⟨h1,h2⟩:=bM.1 hA;have hz:r[j]?=some z:=by simpa using h
  have:=h1 z (aF hz);have e:rR z.1 (p::r)=p::rR z.1 r:=by
   have: ¬p.1=z.1:=om;simp[rR,this]
  rw[e,Nq h2 hz];rfl
theorem cut_at {l:List (Int×Int)} {a:Int} {j:Nat} (hA:Asc l) (hne: ∀x∈l,x.1≠a) (_: ∀x∈l.take j,x.1<a) (hj: ∀x,l[j]?=some x→a≤x.1): ∀x∈l.drop j,a<x.1:=by
 intro x hx;cases e:l[j]? with
 |none=>
  rw[fQ (by simpa using e)] at hx;cases hx
 |some y=>
  have h0:=hj y e;have hy:=hne y (aF e);rw[dQ (au.1 e).1,(au.1 e).2] at hx;rcases aB.1 hx with rfl|hx
  ·omega
  ·have hA':Asc (l.drop j):=List.Pairwise.sublist (List.drop_sublist j l) hA
   rw[dQ (au.1 e).1,(au.1 e).2] at hA';have:=(bM.1 hA').1 x hx;omega
theorem take_lt {l:List (Int×Int)} {a:Int} {j:Nat} {y:Int×Int} (h: ∀x∈l.take j,x.1<a) (hy:l[j]?=some y) (hlt:y.1<a): ∀x∈l.take (j+1),x.1<a:=by
 intro x hx;rw[bT,hy] at hx;rcases aD.1 hx with q|q
 ·exact h x q
 ·simp at q;rw[q];exact hlt
def uy (k:Int) (l:List (Int×Int)):Option (Nat×(Int×Int))→Prop:=fun
 |none=>∀x∈l,x.2<k
 |some (i,x)=>l[i]?=some x∧mq k l=some x
theorem EU: ∀(r:List (Int×Int)) (x y:Int×Int),yI x (r++[y])=if y.2<(yI x r).2 then y else yI x r
 |[],x,y=>rfl
 |z::r,x,y=>by simp only[List.cons_append,yI];exact EU r _ y
theorem SC (k:Int) (l:List (Int×Int)) (y:Int×Int):Bv k (l++[y])=if y.2<k then Bv k l else Bv k l++[y]:=by
 unfold Bv;rw[iQ];by_cases h:y.2<k<;>simp[h]
theorem Co (k:Int) (l:List (Int×Int)) (y:Int×Int):mq k (l++[y])=if y.2<k then mq k l else match mq k l with|none=>some y|some x=>if y.2<x.2 then some y else some x:=by
 unfold mq;rw[SC];by_cases h:y.2<k
 ·rw[if_pos h,if_pos h]
 ·rw[if_neg h,if_neg h]
  cases e:Bv k l with
  |nil=>simp[yI]
  |cons x r=>
   simp only[List.cons_append,EU];split<;>rfl
theorem Qo (k:Int):uy k [] none:=fun _ h=>by cases h
theorem zK {k:Int} {l:List (Int×Int)} {b:Option (Nat×(Int×Int))} {y:Int×Int} (h:uy k l b) (hy:y.2<k∨∃i x,b=some (i,x)∧x.2≤y.2):uy k (l++[y]) b:=by
 match b,h with
 |none,h=>
  rcases hy with hy|⟨i,x,e,_⟩
  ·intro x hx
   rcases aD.1 hx with q|q
   ·exact h x q
   ·simp at q;rw[q];exact hy
  ·cases e
 |some (i,x),⟨h1,h2⟩=>
  refine⟨?_,?_⟩
  ·rw[bG (au.1 h1).1];exact h1
  ·rw[Co,h2]
   rcases hy with hy|⟨i',x',e,hy⟩
   ·rw[if_pos hy]
   ·obtain⟨rfl,rfl⟩:i=i'∧x=x':=by simpa using e
    split
    ·rfl
    ·simp only
     rw[if_neg om]
theorem zM {k:Int} {l:List (Int×Int)} {b:Option (Nat×(Int×Int))} {y:Int×Int} (h:uy k l b) (hk:k≤y.2) (hy: ∀i x,b=some (i,x)→y.2<x.2):uy k (l++[y]) (some (l.length,y)):=by
 refine⟨sI,?_⟩;rw[Co,if_neg om];match b,h with
 |none,h=>
  have:mq k l=none:=by
   unfold mq;have:Bv k l=[]:=by
    refine List.filter_eq_nil_iff.2 fun x hx=> ?_
    have:=h x hx;simp;omega
   rw[this]
  rw[this]
 |some (i,x),⟨_,h2⟩=>
  rw[h2];simp only;rw[if_pos (hy i x rfl)]
theorem H9 {k:Int} {l:List (Int×Int)} (h:uy k l none):mq k l=none:=by
 unfold mq;have:Bv k l=[]:=by
  refine List.filter_eq_nil_iff.2 fun x hx=> ?_
  have:=h x hx;simp;omega
 rw[this]
structure TS (n:Int) (F T:List (Int×Int)) (i k:Nat) (at':Int):Prop where
 i1:i≤F.length
 k1:k≤T.length
 a0:0≤at'
 a1:at'≤n
 fb: ∀x∈F.take i,x.1+sz x.2≤at'
 fa: ∀x∈F.drop i,at'≤x.1
 tb: ∀x∈T.take k,x.1+sz x.2≤at'
 ta: ∀x∈T.drop k,at'≤x.1
end Go.Proofs.YtehhldljdakgeaaGreatDoor
