/- Lemmas. -/
import Derived.Test.YtehhldljdakgeaaGreatDoorQb01
import Derived.Test.YtehhldljdakgeaaGreatDoorQb23
set_option linter.unusedSimpArgs false
set_option linter.unusedVariables false
set_option maxHeartbeats 16000000
set_option maxRecDepth 100000
namespace Go.Proofs.YtehhldljdakgeaaGreatDoor
open Go.RowKit Go.Maps Go.Proofs.Tryz
attribute [local go_sem ↓] aJ aK
section
open Go.Shelf
theorem Tryz.keysS:Go.Proofs.SlLaysZI.n7 prog Tryz.keysS_ren:={
 mixed:=kR
 f7:=⟨Tryz.f81.name,by decide,Tryz.func81.trans (congrArg some kR)⟩
 f10:=⟨Tryz.f116.name,by decide,Tryz.func116.trans (congrArg some kR)⟩
 t0:=jB
 a0:=Tryz.isAgg0
 z0:=Tryz.sizeOf0
 v0:=jI
 t4:=jC
 a4:=Tryz.isAgg4
 z4:=Tryz.sizeOf4
 v4:=Tryz.zeroValue4
 t23:=gQ
 a23:=Tryz.isAgg158
 z23:=Tryz.sizeOf158
 v23:=Tryz.zeroValue158
 t26:=bB
 a26:=gZ
 z26:=gK
 v26:=iX
 t27:=Tryz.underlying166
 a27:=Tryz.isAgg166
 z27:=Tryz.sizeOf166
 v27:=Tryz.zeroValue166
 t28:=Tryz.underlying167
 a28:=Tryz.isAgg167
 z28:=Tryz.sizeOf167
 v28:=Tryz.zeroValue167
 t33:=Tryz.underlying131
 a33:=Tryz.isAgg131
 z33:=Tryz.sizeOf131
 v33:=Tryz.zeroValue131}
end
section
variable {pd pc pz e:Nat} {mn:Int} {O:List (List Int)} {ev:Nat→Addr} {w0:World} {E:sG pd pc pz e mn O ev w0} {X F:List Nat} {w w1 w':World} {pp bt bg:Nat} {vr vw:Value} {p p':Po}
theorem Xj (h:PoX E X F pp p w):
 Calls prog 78 #[.pointer (some ⟨pp,0,none⟩)] w fun r w'=>r= .returned (.pointer (some ⟨pd,0,none⟩))∧w'=w:=by
 obtain⟨⟨bt,bg,vr,vw,q⟩,hi⟩:=h;have c0:=q.b.c.gC 0;have cl:=q.b.c.lt;clear q hi;go_in
 go_wp2;go_ret;exact⟨rfl,rfl⟩
end
structure Bk where
 id:Int
 o:Ob
 b:List UInt8
 h:Nat
structure St where
 p:Po
 L:List Bk
 last:Int
def mW (L:List Bk) (id:Int):Option Bk:=L.find? fun x=>x.id==id
def Cw (L:List Bk) (id:Int):List Bk:=L.filter fun x=>x.id !=id
def Al (L:List Bk) (y:Bk):List Bk:=L.map fun x=>if x.id=y.id then y else x
def Bk.hold (x:Bk) (h:Nat):Bk:=⟨x.id,x.o,x.b,h⟩
def Bk.wr (x:Bk) (b:List UInt8):Bk:=⟨x.id,x.o,b,x.h⟩
def St.atP (s:St) (p:Po):St:=⟨p,s.L,s.last⟩
def St.put (s:St) (y:Bk):St:=⟨s.p,Al s.L y,s.last⟩
def qK (e:Nat) (r:Po×Nat×Ob):Po:=if r.2.1=8 then(match r.1.W.getLast? with|some t=>(oV e r.1 t).1|none=>r.1) else r.1
def sO (sz:Nat) (s:St) (o:Ob):Bk:=⟨s.last+1,o,List.replicate sz 0,1⟩
def pW (mn:Int) (O:List (List Int)) (e sz:Nat) (s:St) (k v:Int):St×Nat×Int:=
 if (kI mn O e s.p k v).2.1=0 then(⟨(kI mn O e s.p k v).1,s.L++[sO sz s (kI mn O e s.p k v).2.2],s.last+1⟩,0,s.last+1)
 else(s.atP (qK e (kI mn O e s.p k v)),(kI mn O e s.p k v).2.1,0)
def wZ (s:St) (id:Int):St×Nat:=
 match mW s.L id with
 |none=>(s,4)
 |some x=>if 16≤x.h then(s,10) else(s.put (x.hold (x.h+1)),0)
def sP (e:Nat) (s:St) (k id:Int):St×Nat:=
 match mW s.L id with
 |none=>(s,4)
 |some x=>if mG s.p k=false then(s,2) else if x.h=1 then(⟨(lZ e s.p k x.o).1,Cw s.L id,s.last⟩,0) else(s.put (x.hold (x.h-1)),0)
def lC (sz:Nat) (s:St) (id a n:Int):Nat:=
 match mW s.L id with
 |none=>4
 |some _=>if a<0∨n<0∨(sz:Int)<a∨(sz:Int)-a<n then 2 else 0
def r9 (b t:List UInt8) (a:Nat):List UInt8:=b.take a++t++b.drop (a+t.length)
def nZ (sz:Nat) (s:St) (id a:Int) (t:List UInt8):St×Nat:=
 match mW s.L id with
 |none=>(s,4)
 |some x=>if a<0∨(sz:Int)<a∨(sz:Int)-a<t.length then(s,2) else if 1<x.h then(s,6) else(s.put (x.wr (r9 x.b t a.toNat)),0)
def Kg (mn:Int) (O:List (List Int)) (e sz:Nat) (s:St) (k v id:Int):St×Nat×Int:=
 match mW s.L id with
 |none=>(s,4,0)
 |some x=>if x.h=1 then(s,0,id) else
  if (pW mn O e sz s k v).2.1=0 then(((pW mn O e sz s k v).1.put ((sO sz s (kI mn O e s.p k v).2.2).wr x.b)).put (x.hold (x.h-1)),0,s.last+1)
  else pW mn O e sz s k v
structure uG (e sz:Nat) (s:St):Prop where
 p:nX e s.p
 w:s.p.W=[]
 g:s.p.G=[]
 cl:s.p.cl=false
 asc:(s.L.map (·.id)).Pairwise (· < ·)
 rng: ∀x∈s.L,1≤x.id∧x.id≤s.last
 len: ∀x∈s.L,x.b.length=sz
 hs: ∀x∈s.L,1≤x.h∧x.h≤16
 t: ∀x∈s.L,x.o∈s.p.T
 nd:(s.L.map (·.o)).Nodup
 l0:0≤s.last
section
variable {mn:Int} {O:List (List Int)} {e sz:Nat} {s:St} {k v id:Int} {x y:Bk} {L:List Bk}
theorem mH (h:mW L id=some x):x∈L∧x.id=id:=by
 unfold mW at h;have h2:=gU h;exact⟨dJ h,by simpa using h2⟩
theorem uN (hn:(L.map (·.id)).Nodup) (hx:x∈L):mW L x.id=some x:=by
 induction L with
 |nil=>cases hx
 |cons a L ih=>
  rw[bH,aS] at hn;unfold mW at ih ⊢;rw[fU];rcases aB.1 hx with rfl|q
  ·simp
  ·have:(a.id==x.id)=false:=by
    simp only[beq_eq_false_iff_ne,ne_eq];exact fun r=>hn.1 (r▸bC.2 ⟨x,q,rfl⟩)
   rw[this];exact ih hn.2 q
theorem uG.ndI (h:uG e sz s):(s.L.map (·.id)).Nodup:=h.asc.imp fun q=>om
theorem AX:(Al L y).map (·.id)=L.map (·.id):=by
 unfold Al;rw[eH];refine fq fun x hx=> ?_
 simp only[Function.comp];split
 ·rename_i q;exact q.symm
 ·rfl
theorem QA {z:Bk} (h:z∈Al L y):(z=y∧∃x∈L,x.id=y.id)∨(z∈L∧z.id≠y.id):=by
 unfold Al at h;obtain⟨x,hx,he⟩:=bC.1 h;split at he
 ·rename_i q;exact .inl ⟨he.symm,x,hx,q⟩
 ·rename_i q;subst he;exact .inr ⟨hx,q⟩
theorem Xk (h: ∀x∈L,x.id=y.id→x.o=y.o):(Al L y).map (·.o)=L.map (·.o):=by
 unfold Al;rw[eH];refine fq fun x hx=> ?_
 simp only[Function.comp];split
 ·rename_i q;exact(h x hx q).symm
 ·rfl
theorem uG.put (h:uG e sz s) (hx:mW s.L id=some x) (hi:y.id=x.id) (ho:y.o=x.o) (hb:y.b.length=sz) (hh:1≤y.h∧y.h≤16):uG e sz (s.put y):=by
 obtain⟨m1,m2⟩:=mH hx;have key: ∀z∈s.L,z.id=y.id→z=x:=fun z hz q=>by
  have a:=uN h.ndI hz;rw[q,hi,m2,hx] at a;exact(aO a).symm
 have hz: ∀z∈(s.put y).L,z=y∨z∈s.L:=fun z q=>(QA q).imp (·.1) (·.1)
 refine⟨h.p,h.w,h.g,h.cl,?_,fun z q=> ?_,fun z q=> ?_,fun z q=> ?_,fun z q=> ?_,?_,h.l0⟩
 ·show((Al s.L y).map (·.id)).Pairwise (· < ·)
  rw[AX];exact h.asc
 ·rcases hz z q with rfl|r
  ·rw[hi];exact h.rng x m1
  ·exact h.rng z r
 ·rcases hz z q with rfl|r
  ·exact hb
  ·exact h.len z r
 ·rcases hz z q with rfl|r
  ·exact hh
  ·exact h.hs z r
 ·rcases hz z q with rfl|r
  ·rw[ho];exact h.t x m1
  ·exact h.t z r
 ·show((Al s.L y).map (·.o)).Nodup
  rw[Xk fun z q r=>by rw[key z q r,ho]];exact h.nd
theorem uG.hold (h:uG e sz s) (id:Int):uG e sz (wZ s id).1:=by
 unfold wZ;split
 ·exact h
 ·rename_i x hx
  split
  ·exact h
  ·rename_i hn
   have:=h.hs x (mH hx).1;exact h.put hx rfl rfl (h.len x (mH hx).1) ⟨by show 1≤x.h+1;omega,by show x.h+1≤16;omega⟩
theorem U2 {b t:List UInt8} {a:Nat} (h:a+t.length≤b.length):(r9 b t a).length=b.length:=by
 unfold r9;simp only[aW,bD,bY];omega
theorem uG.write (h:uG e sz s) (id a:Int) (t:List UInt8):uG e sz (nZ sz s id a t).1:=by
 unfold nZ;split
 ·exact h
 ·rename_i x hx
  split
  ·exact h
  ·rename_i hb
   split
   ·exact h
   ·have hl:=h.len x (mH hx).1
    exact h.put hx rfl rfl (by show(r9 x.b t a.toNat).length=sz;rw[U2 om];exact hl) (h.hs x (mH hx).1)
theorem Gi {l:List Int} {a:Int} (h:l.Pairwise (· < ·)) (ha: ∀b∈l,b<a):(l++[a]).Pairwise (· < ·):=by
 rw[dV];exact⟨h,sI,fun b hb c hc=>by simp at hc;subst hc;exact ha b hb⟩
theorem vV (h:nX e s.p) (hw:s.p.W=[]) (hcl:s.p.cl=false) (hg:s.p.G=[]) (hO:rM O s.p.d.c.L.length):
 ((kI mn O e s.p k v).2.1=0∧(kI mn O e s.p k v).1.T=s.p.T++[(kI mn O e s.p k v).2.2]∧(kI mn O e s.p k v).1.W=[]∧(kI mn O e s.p k v).1.G=[]∧(kI mn O e s.p k v).1.cl=false∧(kI mn O e s.p k v).1.last=s.p.last)∨
 ((kI mn O e s.p k v).2.1=2∧(kI mn O e s.p k v).1=s.p∧(kI mn O e s.p k v).2.2=(0,0))∨
 ((kI mn O e s.p k v).2.1=8∧(kI mn O e s.p k v).2.2=(0,0)∧(kI mn O e s.p k v).1.W=[s.p.last+1]∧(kI mn O e s.p k v).1.T=s.p.T∧(kI mn O e s.p k v).1.G=[]∧(kI mn O e s.p k v).1.cl=false∧(kI mn O e s.p k v).1.last=s.p.last+1):=by
 unfold kI;rw[if_neg (by rw[hcl];simp)];split
 ·exact .inr (.inl ⟨rfl,rfl,rfl⟩)
 rw[if_neg (by rw[hw];simp)];split
 ·exact .inl ⟨rfl,rfl,hw,hg,hcl,rfl⟩
 split
 ·refine .inr (.inr ?_)
  unfold mY;rw[if_neg (by show¬8≤s.p.W.length;rw[hw];simp)];refine⟨rfl,rfl,?_,rfl,hg,hcl,rfl⟩;show s.p.W++[s.p.last+1]=_;rw[hw];rfl
 ·exact .inl ⟨rfl,rfl,hw,hg,hcl,rfl⟩
theorem Iz (hcl:s.p.cl=false) {q:Po} {o:Ob} {t:Int} (hq:q.W=[t]) (hc:q.cl=false):qK e (q,8,o)=⟨q.d,q.most,q.R,q.T,[],q.G,q.last,q.cl⟩:=by
 unfold qK;simp only[if_true];rw[hq];simp only[List.getLast?_singleton];unfold oV;rw[if_neg (by rw[hc];simp),if_pos (by rw[hq];simp),hq];simp
theorem qx (h0:(kI mn O e s.p k v).2.1=0):pW mn O e sz s k v=(⟨(kI mn O e s.p k v).1,s.L++[sO sz s (kI mn O e s.p k v).2.2],s.last+1⟩,0,s.last+1):=by unfold pW;rw[if_pos h0]
theorem pJ (h0:(kI mn O e s.p k v).2.1≠0):pW mn O e sz s k v=(s.atP (qK e (kI mn O e s.p k v)),(kI mn O e s.p k v).2.1,0):=by unfold pW;rw[if_neg h0]
theorem uG.take (hO:rM O s.p.d.c.L.length) (h:uG e sz s) (k v:Int):uG e sz (pW mn O e sz s k v).1∧(pW mn O e sz s k v).1.p.last≤s.p.last+1:=by
 have hI:=h.p.take (mn:=mn) hO k v;rcases vV (mn:=mn) (k:=k) (v:=v) h.p h.w h.cl h.g hO with⟨c0,cT,cW,cG,cc,cl⟩|⟨c2,cp,co⟩|⟨c8,co,cW,cT,cG,cc,cl⟩
 ·rw[qx c0]
  refine⟨⟨hI,cW,cG,cc,?_,fun x q=> ?_,fun x q=> ?_,fun x q=> ?_,fun x q=> ?_,?_,by have:=h.l0;simp only;omega⟩,by simp only;omega⟩
  ·show((s.L++[sO sz s _]).map (·.id)).Pairwise _
   rw[dz];exact Gi h.asc fun b hb=>by
    obtain⟨x,hx,rfl⟩:=bC.1 hb;have:=(h.rng x hx).2;show x.id<s.last+1;omega
  ·rcases aD.1 q with r|r
   ·have:=h.rng x r;simp only;omega
   ·simp at r;subst r;have:=h.l0;exact⟨by show 1≤s.last+1;omega,bZ _⟩
  ·rcases aD.1 q with r|r
   ·exact h.len x r
   ·simp at r;subst r;simp[sO]
  ·rcases aD.1 q with r|r
   ·exact h.hs x r
   ·simp at r;subst r;exact⟨aI _,by show 1≤16;omega⟩
  ·simp only
   rw[cT];rcases aD.1 q with r|r
   ·exact av _ (h.t x r)
   ·simp at r;subst r;exact aj _ (by simp[sO])
  ·show((s.L++[sO sz s _]).map (·.o)).Nodup
   rw[dz,bF];refine⟨h.nd,sI,fun a ha b hb q=> ?_⟩;simp[sO] at hb;subst hb;obtain⟨x,hx,hxo⟩:=bC.1 ha;have nd:=hI.nd;unfold Po.obs at nd;rw[cT] at nd;have n1:=(bF.1 (bF.1 nd).2.1).1;have:=(bF.1 n1).2.2 a (hxo▸h.t x hx) _ (bL.2 rfl);exact this q
 ·rw[pJ (by rw[c2];simp)]
  have e1:qK e (kI mn O e s.p k v)=s.p:=by unfold qK;rw[if_neg (by rw[c2];simp),cp]
  rw[e1];exact⟨h,by show s.p.last≤_;omega⟩
 ·rw[pJ (by rw[c8];simp)]
  obtain⟨q,c,o,hq⟩: ∃q c o,kI mn O e s.p k v=(q,c,o):=⟨_,_,_,rfl⟩;rw[hq] at c8 cW cT cG cc cl hI ⊢;simp only at c8 cW cT cG cc cl hI;subst c8;rw[Iz (s:=s) h.cl cW cc];have hI2:=hI.cancel (s.p.last+1);unfold oV at hI2;rw[if_neg (by rw[cc];simp),if_pos (by rw[cW];simp),cW] at hI2;simp only[List.erase_cons_head] at hI2;exact⟨⟨hI2,rfl,cG,cc,h.asc,h.rng,h.len,h.hs,fun x r=>by show x.o∈q.T;rw[cT];exact h.t x r,h.nd,h.l0⟩,by show q.last≤_;omega⟩
theorem xG (h:y∈Cw L id):y∈L∧y.id≠id:=by
 unfold Cw at h;simpa using h
theorem uG.drop (h:uG e sz s) (k id:Int):uG e sz (sP e s k id).1:=by
 unfold sP;split
 ·exact h
 rename_i x hx;split
 ·exact h
 rename_i hw;obtain⟨m1,m2⟩:=mH hx;have hh:=h.hs x m1;split
 ·have hT:=h.t x m1
  have hI:=h.p.give k x.o;have sub:(Cw s.L id).Sublist s.L:=gF;have e1:(lZ e s.p k x.o).1.W=[]∧(lZ e s.p k x.o).1.G=[]∧(lZ e s.p k x.o).1.cl=false∧(lZ e s.p k x.o).1.T=s.p.T.erase x.o:=by
   unfold lZ;rw[if_neg (by rw[h.cl];simp),if_neg hw,if_pos hT];unfold Cj;rw[h.w];simp only;split
   ·exact⟨rfl,h.g,h.cl,rfl⟩
   ·exact⟨rfl,h.g,h.cl,rfl⟩
  refine⟨hI,e1.1,e1.2.1,e1.2.2.1,h.asc.sublist (sub.map _),fun y q=>h.rng y (xG q).1,fun y q=>h.len y (xG q).1,fun y q=>h.hs y (xG q).1,fun y q=> ?_,h.nd.sublist (sub.map _),h.l0⟩;simp only;rw[e1.2.2.2];obtain⟨q1,q2⟩:=xG q;refine(jM fun r=>q2 ?_).2 (h.t y q1);have key: ∀{L:List Bk},(L.map (·.o)).Nodup→x∈L→y∈L→y.o=x.o→y=x:=fun {L} hn=>by
   induction L with
   |nil=>intro a;cases a
   |cons z L ih=>
    rw[bH,aS] at hn;intro a b c;rcases aB.1 a with rfl|a'
    ·rcases aB.1 b with rfl|b'
     ·rfl
     ·exact absurd (bC.2 ⟨y,b',c⟩) hn.1
    ·rcases aB.1 b with rfl|b'
     ·exact absurd (bC.2 ⟨x,a',c.symm⟩) hn.1
     ·exact ih hn.2 a' b' c
  rw[key h.nd m1 q1 r,m2]
 ·exact h.put hx rfl rfl (h.len x m1) ⟨by show 1≤x.h-1;omega,by show x.h-1≤16;omega⟩
end
structure Ov {σ:Type} {w0:World} (P:FEnv σ w0) (τ:Type) where
 M:Type
 pi:τ→σ
 set:τ→σ→τ
 ws:M→List Nat
 B:M→τ→World→Prop
 keep: ∀{m t w w' S},B m t w→Keep S w w'→(∀s∈S,s∉ws m)→B m t w'
 at_: ∀{m t w} (d:σ),B m t w→B m (set t d) w
 pis: ∀t d,pi (set t d)=d
section
variable {σ τ:Type} {w0:World} {P:FEnv σ w0} {V:Ov P τ} {X X0 F G Y L:List Nat} {m m':V.M} {t t':τ} {d:σ} {w w' W W':World} {b:Nat} {r:Value} {en:Ending}
structure Ov.T (V:Ov P τ) (X F:List Nat) (m:V.M) (t:τ) (w:World):Prop where
 s:P.S X (V.ws m++F) (V.pi t) w
 b:V.B m t w
 f: ∀f∈F,f∉V.ws m
theorem Ov.T.inX (h:V.T X F m t w): ∀y∈V.ws m,y∈X:=fun y hy=>P.sU h.s y (av _ hy)
theorem Ov.T.lim (h:V.T X F m t w): ∀y∈V.ws m,w0.heap.size≤y∧y<w.heap.size:=fun y hy=>P.lim h.s y (h.inX y hy)
theorem Ov.T.go (h:V.T X F m t w) (k:Below w.heap.size w w'):V.T X F m t w':=⟨P.go h.s k,V.keep h.b (Keep.of (S:=[]) k) (fun _ q=>by cases q),h.f⟩
theorem Ov.T.other (h:V.T X F m t w) (k:Keep G w w') (hs: ∀g∈G,g∈F):V.T X F m t w':=
 ⟨P.other h.s k fun g q=>aj _ (hs g q),V.keep h.b k fun s q=>h.f s (hs s q),h.f⟩
theorem Ov.T.wB (h:V.T X F m t w) (hs: ∀g∈G,g∈F):V.T X G m t w:=
 ⟨P.wB h.s fun g q=>(aD.1 q).elim (fun u=>av _ u) (fun u=>aj _ (hs g u)),h.b,fun f q=>h.f f (hs f q)⟩
theorem Ov.T.uS (h:V.T X F m t w) (k:Keep G w w') (hs: ∀g∈G,g∈F) (hY: ∀y∈Y,w.heap.size≤y∧y<w'.heap.size):V.T (Y++X) (Y++F) m t w':=by
 refine⟨P.wB (P.uS (Y:=Y) h.s k (fun g q=>aj _ (hs g q)) hY) fun g q=> ?_,V.keep h.b k fun s q=>h.f s (hs s q),fun f q r=> ?_⟩
 ·rcases aD.1 q with u|u
  ·exact aj _ (av _ u)
  ·rcases aD.1 u with u|u
   ·exact av _ u
   ·exact aj _ (aj _ u)
 ·rcases aD.1 q with u|u
  ·have:=(hY f u).1;have:=(h.lim f r).2;omega
  ·exact h.f f u r
def Ov.env (V:Ov P τ):FEnv τ w0 where
 S X F t w:=∃m,V.T X F m t w
 bel:=fun⟨_,q⟩=>P.bel q.s
 lim:=fun⟨_,q⟩=>P.lim q.s
 sU:=fun⟨_,q⟩ f hf=>P.sU q.s f (aj _ hf)
 go:=fun⟨_,q⟩ k=>⟨_,q.go k⟩
 other:=fun⟨_,q⟩ k hs=>⟨_,q.other k hs⟩
 uS:=fun⟨_,q⟩ k hs hy=>⟨_,q.uS k hs hy⟩
 wB:=fun⟨_,q⟩ hg=>⟨_,q.wB hg⟩
def FEnv.with {σ:Type} {w0:World} (E:FEnv σ w0) (I:σ→Prop):FEnv σ w0 where
 S X F t w:=E.S X F t w∧I t
 bel h:=E.bel h.1
 lim h:=E.lim h.1
 sU h:=E.sU h.1
 go h k:=⟨E.go h.1 k,h.2⟩
 other h k hs:=⟨E.other h.1 k hs,h.2⟩
 uS h k hs hy:=⟨E.uS h.1 k hs hy,h.2⟩
 wB h hg:=⟨E.wB h.1 hg,h.2⟩
theorem FEnv.sV {σ:Type} {w0:World} {E:FEnv σ w0} {I:σ→Prop} {t:σ} (h:EPost E.S X F t w r en w') (hi:I t):EPost (E.with I).S X F t w r en w':=by
 obtain⟨h1,X',h2,h3⟩:=h;exact⟨h1,X',⟨h2,hi⟩,h3⟩
theorem Ov.T.dep (h:V.T X F m t w) (hp:EPost P.S X (V.ws m++F) d w r en w'):en= .returned r∧∃X',V.T X' F m (V.set t d) w'∧Keep (off X (V.ws m++F)) w w'∧(∀x∈X',x∈X∨w.heap.size≤x)∧∀x∈X,x∈X':=by
 obtain⟨h1,X',h2,h3,h4,h5⟩:=hp;exact⟨h1,X',⟨by rw[V.pis];exact h2,V.keep (V.at_ d h.b) h3 fun s q u=>(jW.1 q).2 (av _ u),h.f⟩,h3,h4,h5⟩
structure Ov.Run (V:Ov P τ) (X0 F:List Nat) (w:World) (L X:List Nat) (m:V.M) (t:τ) (W:World):Prop where
 run:pQ V.env X0 F w L X t W
 at_:V.T X (L++F) m t W
 ff: ∀f∈F,f<w.heap.size
theorem Ov.Run.start (h:V.T X F m t w):V.Run X F w [] X m t w:=⟨pQ.start (E:=V.env) ⟨_,h⟩,h,fun f q=>(P.lim h.s f (P.sU h.s f (aj _ q))).2⟩
theorem Ov.Run.go (h:V.Run X0 F w L X m t W) (k:Below W.heap.size W W'):V.Run X0 F w L X m t W':=⟨h.run.go k,h.at_.go k,h.ff⟩
theorem Ov.Run.box (h:V.Run X0 F w L X m t W) (o:Obj):V.Run X0 F w (W.heap.size::L) (W.heap.size::X) m t (W.alloc o):=
 ⟨h.run.box o,h.at_.uS (Y:=[W.heap.size]) (G:=[]) (Keep.of ((aL _ _).alloc (aI _) o)) (fun g q=>by cases q) (fun y hy=>by simp at hy;subst hy;simp),h.ff⟩
theorem Ov.Run.wr (h:V.Run X0 F w L X m t W) (hb:b∈L) (k:Keep [b] W W'):V.Run X0 F w L X m t W':=
 ⟨h.run.wr hb k,h.at_.other k (fun g q=>by simp at q;subst q;exact av _ hb),h.ff⟩
theorem Ov.Run.nL (h:V.Run X0 F w L X m t W) (hb:b∈L):b∉V.ws m:=h.at_.f b (av _ hb)
theorem Ov.Run.lt (h:V.Run X0 F w L X m t W) (hb:b∈V.ws m):b<W.heap.size:=(h.at_.lim b hb).2
theorem Ov.Run.dep (h:V.Run X0 F w L X m t W) (hp:EPost P.S X (V.ws m++(L++F)) d W r en W'):en= .returned r∧∃X',V.Run X0 F w L X' m (V.set t d) W'∧Keep (off X (V.ws m++(L++F))) W W':=by
 obtain⟨h1,X',h2,h3,h4,h5⟩:=h.at_.dep hp;have z:=h.run.k.size;refine⟨h1,X',⟨⟨⟨_,h2⟩,h.run.k.trans h3 fun s q=> ?_,fun x q=> ?_,fun x q=>h5 x (h.run.x2 x q),fun b q=>⟨(h.run.l b q).1,aC (h.run.l b q).2 h3.size⟩⟩,h2,h.ff⟩,h3⟩
 ·obtain⟨q1,q2⟩:=jW.1 q
  exact(h.run.x1 s q1).imp (fun u=>jW.2 ⟨u,fun v=>q2 (aj _ (aj _ v))⟩) id
 ·rcases h4 x q with u|u
  ·exact h.run.x1 x u
  ·exact .inr om
theorem Ov.Run.put {L':List Nat} (h:V.Run X0 F w L X m t W) (k:Keep (V.ws m++L) W W') (hw: ∀y∈V.ws m',y∈V.ws m∨y∈L∨W.heap.size≤y) (hl: ∀y∈V.ws m',y<W'.heap.size) (hL: ∀y∈L',y∈L∧y∉V.ws m') (hb:V.B m' t' W') (hd:V.pi t'=V.pi t):
 ∃X',V.Run X0 F w L' X' m' t' W':=by
 have hY: ∀y∈(V.ws m').filter (fun y=>decide (W.heap.size≤y)),W.heap.size≤y∧y<W'.heap.size:=fun y q=>by
  obtain⟨q1,q2⟩:=bG.1 q;exact⟨of_decide_eq_true q2,hl y q1⟩
 have z:=h.run.k.size;have sub: ∀g∈V.ws m++L,g∈V.ws m++(L++F):=fun g q=>(aD.1 q).elim (fun u=>av _ u) (fun u=>aj _ (av _ u))
 have t1:=P.uS (Y:=(V.ws m').filter (fun y=>decide (W.heap.size≤y))) h.at_.s k sub hY;have nF: ∀f∈F,f∉V.ws m':=fun f q r=>by
  have hf:=h.ff f q;rcases hw f r with u|u|u
  ·exact h.at_.f f (aj _ q) u
  ·have:=(h.run.l f u).1;omega
  ·omega
 have a':V.T ((V.ws m').filter (fun y=>decide (W.heap.size≤y))++X) (L'++F) m' t' W':=by
  refine⟨?_,hb,fun f q=> ?_⟩
  ·rw[hd]
   refine P.wB t1 fun g q=> ?_
   rcases aD.1 q with u|u
   ·rcases hw g u with v|v|v
    ·exact aj _ (av _ v)
    ·exact aj _ (aj _ (av _ v))
    ·exact av _ (bG.2 ⟨u,dQt v⟩)
   ·rcases aD.1 u with v|v
    ·exact aj _ (aj _ (av _ (hL g v).1))
    ·exact aj _ (aj _ (aj _ v))
  ·rcases aD.1 q with u|u
   ·exact(hL f u).2
   ·exact nF f u
 refine⟨_,⟨⟨_,a'⟩,h.run.k.trans k fun s q=> ?_,fun x q=> ?_,fun x q=>aj _ (h.run.x2 x q),fun b q=>⟨(h.run.l b (hL b q).1).1,aC (h.run.l b (hL b q).1).2 k.size⟩⟩,a',h.ff⟩
 ·rcases aD.1 q with u|u
  ·exact(h.run.x1 s (h.at_.inX s u)).imp (fun v=>jW.2 ⟨v,fun y=>h.at_.f s (aj _ y) u⟩) id
  ·exact .inr (h.run.l s u).1
 ·rcases aD.1 q with u|u
  ·have:=(hY x u).1;exact .inr om
  ·exact h.run.x1 x u
theorem Ov.Run.fin (h:V.Run X0 F w L X m t W):EPost V.env.S X0 F t w r (.returned r) W:=h.run.fin
end
def lH (b:List UInt8):List Value:=b.map fun x=>.int .u8 (x.toNat:Int)
def bkC (g sz:Nat) (x:Bk):List Value:=[.int .i64 x.o.1,.int .i64 x.o.2,.slice (some ⟨g,0,none⟩) sz sz,.int .i64 x.h]
abbrev BkL:=List (Bk×Nat×Nat)
def Da (C:BkL):List (Lit×Value):=C.map fun c=>(.int .i64 c.1.id,.pointer (some ⟨c.2.1,0,none⟩))
def cws (C:BkL):List Nat:=C.flatMap fun c=>[c.2.1,c.2.2]
def sws (ps bl:Nat) (C:BkL):List Nat:=ps::bl::cws C
def storeCells' (pp sz bl:Nat) (last:Int):List Value:=[.pointer (some ⟨pp,0,none⟩),.int .i64 sz,.map (some bl),.int .i64 last]
structure StB (w:World) (ps pp bl sz:Nat) (C:BkL) (L:List Bk) (last:Int):Prop where
 c:jR w ps (storeCells' pp sz bl last)
 m:qO prog 3 w bl (Da C)
 l:C.map (·.1)=L
 b: ∀c∈C,jR w c.2.1 (bkC c.2.2 sz c.1)∧jR w c.2.2 (lH c.1.b)
 nd:(sws ps bl C).Nodup
section
variable {w w':World} {S:List Nat} {ps pp bl sz:Nat} {C:BkL} {L:List Bk} {last last':Int} {c:Bk×Nat×Nat} {x y:Bk} {id:Int}
theorem pK {b:Nat}:b∈cws C↔∃c∈C,b=c.2.1∨b=c.2.2:=by unfold cws;simp
theorem mU {b:Nat}:b∈sws ps bl C↔b=ps∨b=bl∨b∈cws C:=by unfold sws;simp
theorem StB.keep (h:StB w ps pp bl sz C L last) (k:Keep S w w') (hs: ∀s∈S,s∉sws ps bl C):StB w' ps pp bl sz C L last:=
 ⟨h.c.keep k fun q=>hs _ q (mU.2 (.inl rfl)),h.m.keep k fun q=>hs _ q (mU.2 (.inr (.inl rfl))),h.l,fun c hc=>
   ⟨(h.b c hc).1.keep k fun q=>hs _ q (mU.2 (.inr (.inr (pK.2 ⟨c,hc,.inl rfl⟩)))),(h.b c hc).2.keep k fun q=>hs _ q (mU.2 (.inr (.inr (pK.2 ⟨c,hc,.inr rfl⟩))))⟩,h.nd⟩
theorem QB {α:Type} {f:α→List Nat}: ∀{C:List α} {a b:α} {y:Nat},(C.flatMap f).Nodup→a∈C→b∈C→y∈f a→y∈f b→a=b
 |[],a,b,y,_,ha,_,_,_=>by cases ha
 |c::C,a,b,y,hn,ha,hb,h1,h2=>by
  rw[dL,bF] at hn;rcases aB.1 ha with rfl|ha'
  ·rcases aB.1 hb with rfl|hb'
   ·rfl
   ·exact absurd rfl (hn.2.2 y h1 y (eB.2 ⟨b,hb',h2⟩))
  ·rcases aB.1 hb with rfl|hb'
   ·exact absurd rfl (hn.2.2 y h2 y (eB.2 ⟨a,ha',h1⟩))
   ·exact QB hn.2.1 ha' hb' h1 h2
theorem StB.ndC (h:StB w ps pp bl sz C L last):(cws C).Nodup:=(aS.1 (aS.1 h.nd).2).2
theorem StB.ne (h:StB w ps pp bl sz C L last):ps≠bl∧(∀b∈cws C,b≠ps∧b≠bl):=by
 obtain⟨n1,n2⟩:=aS.1 h.nd;obtain⟨n3,_⟩:=aS.1 n2;simp only[aB,not_or] at n1;exact⟨n1.1,fun b hb=>⟨fun q=>n1.2 (q▸hb),fun q=>n3 (q▸hb)⟩⟩
theorem StB.two (h:StB w ps pp bl sz C L last) (hc:c∈C):c.2.1≠c.2.2:=by
 have: ∀{C:BkL},(cws C).Nodup→c∈C→c.2.1≠c.2.2:=fun {C} hn=>by
  induction C with
  |nil=>intro q;cases q
  |cons a C ih=>
   unfold cws at hn ih;rw[dL,bF] at hn;intro q;rcases aB.1 q with rfl|q'
   ·have:=hn.1;simp at this;exact this
   ·exact ih hn.2.1 q'
 exact this h.ndC hc
theorem StB.apart (h:StB w ps pp bl sz C L last) {a:Bk×Nat×Nat} (ha:a∈C) (hc:c∈C) (hne:a.1.id≠c.1.id):a.2.1≠c.2.1∧a.2.1≠c.2.2∧a.2.2≠c.2.1∧a.2.2≠c.2.2:=by
 have k: ∀y,(y=a.2.1∨y=a.2.2)→(y=c.2.1∨y=c.2.2)→False:=fun y q r=>hne (by rw[QB (f:=fun c:Bk×Nat×Nat=>[c.2.1,c.2.2]) h.ndC ha hc (y:=y) (by simpa using q) (by simpa using r)])
 exact⟨fun q=>k _ (.inl rfl) (.inl q),fun q=>k _ (.inl rfl) (.inr q),fun q=>k _ (.inr rfl) (.inl q),fun q=>k _ (.inr rfl) (.inr q)⟩
theorem look_C:pG (Da C) (.int .i64 id)=(C.find? fun c=>c.1.id==id).map fun c=>.pointer (some ⟨c.2.1,0,none⟩):=by
 induction C with
 |nil=>rfl
 |cons c C ih=>
  have e:Da (c::C)=(.int .i64 c.1.id,.pointer (some ⟨c.2.1,0,none⟩))::Da C:=rfl;rw[e,nJ,fU];by_cases h:c.1.id=id
  ·subst h;simp
  ·have h':(c.1.id==id)=false:=by simpa using h
   rw[h',if_neg (fun q=>h (by injection q))];exact ih
theorem StB.find (h:StB w ps pp bl sz C L last) (id:Int):mW L id=(C.find? fun c=>c.1.id==id).map (·.1):=by
 unfold mW;rw[←h.l,List.find?_map];rfl
theorem StB.has (h:StB w ps pp bl sz C L last) (hx:mW L id=some x): ∃c∈C,c.1=x∧x.id=id∧C.find? (fun c=>c.1.id==id)=some c:=by
 rw[h.find] at hx;obtain⟨c,h1,h2⟩:=dh.1 hx;have h3:=gU h1;exact⟨c,dJ h1,h2,by rw[←h2];simpa using h3,h1⟩
def Db (C:BkL) (y:Bk):BkL:=C.map fun a=>if a.1.id=y.id then(y,a.2) else a
theorem putC_fst:(Db C y).map (·.1)=Al (C.map (·.1)) y:=by
 unfold Db Al;rw[eH,eH];refine fq fun a _=> ?_
 simp only[Function.comp];split<;>rfl
theorem Gj:cws (Db C y)=cws C:=by
 unfold Db cws;induction C with
 |nil=>rfl
 |cons a C ih=>
  simp only[bH,dL];rw[ih];split<;>rfl
theorem putC_map (h: ∀a∈C,a.1.id=y.id→a.1.id=y.id):Da (Db C y)=Da C:=by
 unfold Db Da;rw[eH];refine fq fun a _=> ?_
 simp only[Function.comp];split
 ·rename_i q;simp only;rw[q]
 ·rfl
theorem StB.put (h:StB w ps pp bl sz C L last) (hn:(L.map (·.id)).Nodup) (hc:c∈C) (hi:y.id=c.1.id) (k:Keep S w w') (hs: ∀s∈S,s=c.2.1∨s=c.2.2) (h1:jR w' c.2.1 (bkC c.2.2 sz y)) (h2:jR w' c.2.2 (lH y.b)):
 StB w' ps pp bl sz (Db C y) (Al L y) last:=by
 have off: ∀b,b∉cws C→b∉S:=fun b hb q=>hb (pK.2 ⟨c,hc,hs b q⟩)
 refine⟨h.c.keep k (off _ fun q=>(h.ne.2 _ q).1 rfl),?_,by rw[putC_fst,h.l],fun a ha=> ?_,by unfold sws;rw[Gj];exact h.nd⟩
 ·rw[putC_map fun _ _ q=>q];exact h.m.keep k (off _ fun q=>(h.ne.2 _ q).2 rfl)
 ·unfold Db at ha
  obtain⟨a',ha',rfl⟩:=bC.1 ha;by_cases e:a'.1.id=y.id
  ·rw[if_pos e]
   have ea:a'=c:=by
    have key: ∀{C:BkL},(C.map fun c=>c.1.id).Nodup→a'∈C→c∈C→a'.1.id=c.1.id→a'=c:=fun {C} hn=>by
     induction C with
     |nil=>intro q;cases q
     |cons z C ih=>
      rw[bH,aS] at hn;intro p q r;rcases aB.1 p with rfl|p'
      ·rcases aB.1 q with rfl|q'
       ·rfl
       ·exact absurd (bC.2 ⟨c,q',r.symm⟩) hn.1
      ·rcases aB.1 q with rfl|q'
       ·exact absurd (bC.2 ⟨a',p',r⟩) hn.1
       ·exact ih hn.2 p' q' r
    refine key ?_ ha' hc (e.trans hi);rw[←h.l,eH] at hn;exact hn
   rw[ea];exact⟨h1,h2⟩
  ·rw[if_neg e]
   obtain⟨n1,n2,n3,n4⟩:=h.apart ha' hc (fun q=>e (q.trans hi.symm));exact⟨(h.b a' ha').1.keep k fun q=>(hs _ q).elim n1 n2,(h.b a' ha').2.keep k fun q=>(hs _ q).elim n3 n4⟩
end
def zh {w0:World} (P:FEnv Po w0) (ps pp sz:Nat):Ov P St where
 M:=Nat×BkL
 pi s:=s.p
 set s d:=s.atP d;ws m:=sws ps m.1 m.2
 B m s w:=StB w ps pp m.1 sz m.2 s.L s.last
 keep h k hs:=h.keep k hs
 at_ d h:=h
 pis t d:=rfl
def vI {w0:World} (P:FEnv Po w0) (ps pp e sz:Nat):FEnv St w0:=(zh P ps pp sz).env.with (uG e sz)
theorem Xl (w:World):(zeroValue 155).run prog w= .ok (.pointer none) w:=kR
section
variable {w w':World} {ps pp bl sz:Nat} {C:BkL} {L:List Bk} {last:Int} {c:Bk×Nat×Nat} {id:Int} {B:Nat} {ev:Nat→Addr}
theorem StB.look (h:StB w ps pp bl sz C L last) (hid:kW id) (b:Option (Bk×Nat×Nat)) (hb:C.find? (fun c=>c.1.id==id)=b):
 (Instr.lookup 158 (.map (some bl)) (.int .i64 id) true).run prog w= .ok (.tuple #[((b.map fun c=>Value.pointer (some ⟨c.2.1,0,none⟩)).getD (.pointer none)),.bool b.isSome]) w:=by
 rw[h.m.look uV gQ (Xl w) (keyOf_int_mk bB (wf64 hid)),look_C,hb];cases b<;>rfl
theorem x9 (h:StB w ps pp bl sz C L last) (hid:kW id) (hc:C.find? (fun c=>c.1.id==id)=some c):
 Calls prog 77 #[.pointer (some ⟨ps,0,none⟩),.int .i64 id] w fun r w'=>r= .returned (.tuple #[.pointer (some ⟨c.2.1,0,none⟩),.nilIface])∧w'=w:=by
 have c2:=h.c.gC 2;have cl:=h.c.lt;have lk:=h.look hid _ hc;simp only[jN,iA,jf] at lk;clear h hid hc;go_in
 go_wp2;go_ret2
 exact⟨rfl,rfl⟩
theorem IB (hE:qC B ev w) (h:StB w ps pp bl sz C L last) (hid:kW id) (hc:C.find? (fun c=>c.1.id==id)=none):
 Calls prog 77 #[.pointer (some ⟨ps,0,none⟩),.int .i64 id] w fun r w'=>r= .returned (.tuple #[.pointer none,.iface 336 (.pointer (some (ev 4)))])∧Below w.heap.size w w':=by
 have c2:=h.c.gC 2;have cl:=h.c.lt;have lk:=h.look hid _ hc;simp only[Option.map_none,Option.getD_none,je] at lk;have gs:w.cell? ⟨2,0,none⟩=some (.iface 336 (.pointer (some (ev 4)))):=(hE.at 4 (by decide) (by decide)).1;have gl:2<w.heap.size:=(hE.at 4 (by decide) (by decide)).2;clear h hid hc hE;go_in
 go_wp2_with fail;go_quiet (fail);go_wp2;go_ret2
 exact⟨rfl,jY⟩
end
section
variable {pd pc pz e:Nat} {mn:Int} {O:List (List Int)} {ev:Nat→Addr} {w0:World} {E:sG pd pc pz e mn O ev w0} {X F S:List Nat} {w w':World} {ps pp sz:Nat} {s:St} {id:Int} {bl:Nat} {C:BkL} {c:Bk×Nat×Nat} {x y:Bk} {r:Value} {en:Ending}
theorem vW (h:(zh (kQ E pp) ps pp sz).T X F (bl,C) s w) (hx:mW s.L id=some x): ∃c∈C,c.1=x∧C.find? (fun c=>c.1.id==id)=some c:=by
 obtain⟨c,h1,h2,_,h3⟩:=StB.has h.b hx;exact⟨c,h1,h2,h3⟩
theorem Cx (h:(zh (kQ E pp) ps pp sz).T X F (bl,C) s w) (hx:mW s.L id=none):C.find? (fun c=>c.1.id==id)=none:=by
 have:=StB.find h.b id;rw[hx] at this;exact(gJ.1 this.symm)
theorem xH (h:(vI (kQ E pp) ps pp e sz).S X F s w):qC w0.heap.size ev w:=E.err.go ((vI (kQ E pp) ps pp e sz).bel h)
theorem zm (h:(vI (kQ E pp) ps pp e sz).S X F s w): ∀W,Below w.heap.size w W→EPost (vI (kQ E pp) ps pp e sz).S X F s w r (.returned r) W:=fun W b=>⟨rfl,X,(vI (kQ E pp) ps pp e sz).go h b,Keep.of b,fun _ q=>.inl q,fun _ q=>q⟩
theorem Xm (h:(zh (kQ E pp) ps pp sz).T X F (bl,C) s w) (hi:uG e sz s) (hc:c∈C) (hy:y.id=c.1.id) (k:Keep S w w') (hs: ∀q∈S,q=c.2.1∨q=c.2.2) (h1:jR w' c.2.1 (bkC c.2.2 sz y)) (h2:jR w' c.2.2 (lH y.b)) (hI:uG e sz (s.put y)):
 EPost (vI (kQ E pp) ps pp e sz).S X F (s.put y) w r (.returned r) w':=by
 have hb:StB w' ps pp bl sz (Db C y) (Al s.L y) s.last:=StB.put h.b hi.ndI hc hy k hs h1 h2;have e1:sws ps bl (Db C y)=sws ps bl C:=by unfold sws;rw[Gj]
 have hw: ∀q,q∈(zh (kQ E pp) ps pp sz).ws (bl,Db C y)→q∈(zh (kQ E pp) ps pp sz).ws (bl,C):=fun q t=>by
  have t':q∈sws ps bl (Db C y):=t;rw[e1] at t';exact t'
 have hk:Keep ((zh (kQ E pp) ps pp sz).ws (bl,C)++[]) w w':=k.mono fun q t=>by
  rw[dw];exact mU.2 (.inr (.inr (pK.2 ⟨c,hc,hs q t⟩)))
 have hb':(zh (kQ E pp) ps pp sz).B (bl,Db C y) (s.put y) w':=hb;obtain⟨X',R⟩:=Ov.Run.put (V:=zh (kQ E pp) ps pp sz) (m:=(bl,C)) (m':=(bl,Db C y)) (t':=s.put y) (L':=[]) (Ov.Run.start h) hk (fun q t=>.inl (hw q t)) (fun q t=>aC (h.lim q (hw q t)).2 k.size) (fun q t=>by cases t) hb' rfl;exact FEnv.sV R.fin hI
theorem IC (hid:kW id) (h:(vI (kQ E pp) ps pp e sz).S X F s w):
 Calls prog 31 #[.pointer (some ⟨ps,0,none⟩),.int .i64 id] w (EPost (vI (kQ E pp) ps pp e sz).S X F (wZ s id).1 w (kM ev (wZ s id).2)):=by
 have hE:=xH h;have SAME:=ah (fun r=>zm (r:=r) h);have HI:=h.2.hold id;obtain⟨⟨⟨bl,C⟩,q⟩,hi⟩:=h;revert HI;unfold wZ;cases hx:mW s.L id with
 |none=>
  intro _;have A:=ah (IB hE q.b hid (Cx q hx));simp only[show kM ev 4= .iface 336 (.pointer (some (ev 4))) from rfl];clear q hi hE hx;go_in
  go_wp2_with fail;refine A.out.mono ?_;rintro r w1 ⟨rfl,hb1⟩;go_wp2;go_ret;exact SAME.out _ _ hb1
 |some x=>
  obtain⟨c,hc,rfl,hf⟩:=vW q hx;have A:=x9 q.b hid hf;obtain⟨b1,b2⟩:=q.b.b c hc;have x3:=b1.gC 3;have xf:=b1.f 3 (by simp[bkC]);have xl:=b1.lt;simp only;by_cases h16:16≤c.1.h
  ·rw[if_pos h16]
   intro _;have d16:decide ((16:Int)≤(c.1.h:Int))=true:=dQt om;have gs:w.cell? ⟨7,0,none⟩=some (.iface 336 (.pointer (some (ev 10)))):=(hE.at 10 (by decide) (by decide)).1;have gl:7<w.heap.size:=(hE.at 10 (by decide) (by decide)).2;simp only[show kM ev 10= .iface 336 (.pointer (some (ev 10))) from rfl];obtain⟨hh,hhe⟩:=eY c.1.h;obtain⟨pb,hpb⟩:=eY c.2.1;rw[←hhe] at x3 d16 h16;rw[←hpb] at x3 xl A;have HA:=ah A;clear q hi hE hx hc hf b1 b2 hhe hpb xf A;go_in
   go_wp2_with fail;refine HA.out.mono ?_;rintro r w1 ⟨rfl,rfl⟩;go_wp2;go_ret;exact SAME.out _ _ (aL _ _)
  ·rw[if_neg h16]
   intro HI;have d16:decide ((16:Int)≤(c.1.h:Int))=false:=dQf om;have wl:IntKind.i64.wrap ((c.1.h:Int)+1)=(c.1.h:Int)+1:=aY _ om;have FIN:Hid (∀w',w'=w.setCell ⟨c.2.1,3,none⟩ (.int .i64 ((c.1.h:Int)+1))→EPost (vI (kQ E pp) ps pp e sz).S X F (s.put (c.1.hold (c.1.h+1))) w .nilIface (.returned .nilIface) w'):=fun w' hw'=>by
    subst hw';have k:Keep [c.2.1] w (w.setCell ⟨c.2.1,3,none⟩ (.int .i64 ((c.1.h:Int)+1))):=(Keep.refl _ _).setCell (p:=⟨c.2.1,3,none⟩) (.inl sI) _;exact Xm q hi hc rfl k (fun q t=>.inl (by simpa using t)) (b1.store 3 (.int .i64 ((c.1.h:Int)+1)) (by simp[bkC])) (b2.keep k (by simpa using(q.b.two hc).symm)) HI
   obtain⟨hh,hhe⟩:=eY c.1.h;obtain⟨pb,hpb⟩:=eY c.2.1;have HH:=ah hhe;simp only[show kM ev 0= .nilIface from rfl];rw[←hhe] at x3 d16 h16 wl;rw[←hpb] at x3 xl A xf;have HA:=ah A;have HPB:=ah hpb;clear q hi hE hx hc hf b1 b2 hhe hpb A HI;go_in
   go_wp2_with fail;refine HA.out.mono ?_;rintro r w1 ⟨rfl,hw1⟩;obtain rfl:=hw1.symm;go_wp2;go_ret;exact FIN.out _ (by rw[←HPB.out,←HH.out])
end
theorem jR.sets {w:World} {b:Nat} {us:List Value} (h:jR w b us) (vs:List Value) (o:Nat) (hl:o+vs.length≤us.length):jR (w.setCells b o vs) b (us.take o++vs++us.drop (o+vs.length)):=by
 have hlen:(us.take o++vs++us.drop (o+vs.length)).length=us.length:=by simp only[aW,bD,bY];omega
 refine⟨aC h.lt (ou vs o (Keep.refl [b] w) (.inl sI)).size,fun j u hj=> ?_,fun j hj=>by rw[jA];exact h.f j (by rw[hlen] at hj;exact hj)⟩;by_cases q1:j<o
 ·rw[iw b vs o w ⟨b,j,none⟩ (fun _ _=>.inl q1)]
  rw[bT,bJ (by rw[bD];omega),fC] at hj;exact h.c j u (by simpa[q1] using hj)
 by_cases q2:j<o+vs.length
 ·have:=World.cell?_setCells_in b vs o w (fun i hi=>by rw[h.c (o+i) _ (aA om)];rfl) (j-o) om
  rw[show o+(j-o)=j by omega] at this;rw[this];rw[bT,bP (by rw[bD];omega),bD,show j-min o us.length=j-o by omega,bJ om] at hj;rw[←hj,aA om]
 ·rw[iw b vs o w ⟨b,j,none⟩ (fun _ _=>.inr (by show o+vs.length≤j;omega))]
  rw[bP (by simp only[aW,bD];omega),cO] at hj;simp only[aW,bD] at hj;rw[show o+vs.length+(j-(min o us.length+vs.length))=j by omega] at hj;exact h.c j u hj
theorem byteT: ∀w,(Go.sizeOf 5).run prog w= .ok 1 w:=Lib.byte_size kR
theorem cut_run (w:World) (g sz:Nat) (a n:Int) (ha:0≤a) (hn:0≤n) (h:a+n≤sz):
 (Instr.slice 75 (.slice (some ⟨g,0,none⟩) sz sz) (some (.int .i64 a)) (some (.int .i64 (a+n))) none).run prog w= .ok (.slice (some ⟨g,if sz=a.toNat then 0 else a.toNat,none⟩) n.toNat (sz-a.toNat)) w:=by
 rw[run_slice_lh w 75 (some ⟨g,0,none⟩) sz sz kR .i64 .i64 a (a+n) ha om om];rw[show prog.elem 75=5 by kernel_rfl,byteT];simp only[Result.andThen,sliced,jN,addr_add];have e1:(a+n).toNat-a.toNat=n.toNat:=om;rw[e1];split<;>simp
theorem cutl_run (w:World) (g sz:Nat) (a:Int) (ha:0≤a) (h:a≤sz):
 (Instr.slice 75 (.slice (some ⟨g,0,none⟩) sz sz) (some (.int .i64 a)) none none).run prog w= .ok (.slice (some ⟨g,if sz=a.toNat then 0 else a.toNat,none⟩) (sz-a.toNat) (sz-a.toNat)) w:=by
 rw[run_slice_l w 75 (some ⟨g,0,none⟩) sz sz kR .i64 a ha om];rw[show prog.elem 75=5 by kernel_rfl,byteT];simp only[Result.andThen,sliced,jN,addr_add];split<;>simp
theorem Cy {b:List UInt8} {j:Nat} (hj:j<b.length):(lH b)[j]?=some (.int .u8 (b[j].toNat:Int)):=by
 unfold lH;rw[gq,aA hj];rfl
theorem read_run {w:World} {g sz:Nat} {a n:Int} {b:List UInt8} (h2:jR w g (lH b)) (hl:b.length=sz) (ha:0≤a) (hn:0≤n) (h:a+n≤sz):
 (convert 75 9 (.slice (some ⟨g,if sz=a.toNat then 0 else a.toNat,none⟩) n.toNat (sz-a.toNat))).run prog w= .ok (.string ⟨((b.drop a.toNat).take n.toNat).toArray⟩) w:=by
 have e:((b.drop a.toNat).take n.toNat).length=n.toNat:=by rw[bD,bY];omega
 have:=run_convert_bytes_back (P:=prog) w 75 9 5 ⟨g,if sz=a.toNat then 0 else a.toNat,none⟩ (sz-a.toNat) ((b.drop a.toNat).take n.toNat) kR kR kR (fun j hj=>by
  rw[e] at hj;rw[addr_add,if_neg om,h2.c (a.toNat+j) _ (Cy om)];simp only[List.getElem_take,List.getElem_drop])
 rw[e] at this;exact this
theorem uO {sz:Nat} {s:St} {id a n:Int}:lC sz s id a n=0∨lC sz s id a n=2∨lC sz s id a n=4:=by
 unfold lC;split
 ·exact .inr (.inr rfl)
 ·split
  ·exact .inr (.inl rfl)
  ·exact .inl rfl
theorem zo {sz:Nat} {s:St} {id a n:Int} (h:lC sz s id a n=0): ∃x,mW s.L id=some x∧0≤a∧0≤n∧a≤sz∧a+n≤sz:=by
 unfold lC at h;split at h
 ·cases h
 ·rename_i x hx
  split at h
  ·cases h
  ·rename_i hb;exact⟨x,hx,om,om,om,om⟩
section
variable {pd pc pz e:Nat} {mn:Int} {O:List (List Int)} {ev:Nat→Addr} {w0:World} {E:sG pd pc pz e mn O ev w0} {X F S:List Nat} {w w':World} {ps pp sz:Nat} {s:St} {id a n:Int} {bl:Nat} {C:BkL} {c:Bk×Nat×Nat} {x y:Bk} {last:Int} {L:List Bk}
theorem EY (hsz:sz≤65536) (h:StB w ps pp bl sz C L last) (hid:kW id) (hc:C.find? (fun c=>c.1.id==id)=some c) (ha:0≤a) (hn:0≤n) (hb:a+n≤sz):
 Calls prog 79 #[.pointer (some ⟨ps,0,none⟩),.int .i64 id,.int .i64 a,.int .i64 n] w fun r w'=>r= .returned (.tuple #[.pointer (some ⟨c.2.1,0,none⟩),.nilIface])∧w'=w:=by
 have A:=ah (x9 h hid hc);have c1:=h.c.gC 1;have cl:=h.c.lt;have d1:decide (a<0)=false:=dQf om;have d2:decide (n<0)=false:=dQf om;have d3:decide ((sz:Int)<a)=false:=dQf om;have wl:IntKind.i64.wrap ((sz:Int)-a)=(sz:Int)-a:=aY _ om;have d4:decide ((sz:Int)-a<n)=false:=dQf om;clear h hid hc ha hn hb hsz;go_in
 go_wp2_with fail;refine A.out.mono ?_;rintro r w1 ⟨rfl,hw1⟩;obtain rfl:=hw1.symm;go_wp2;go_ret2
 exact⟨rfl,rfl⟩
theorem IE (hsz:sz≤65536) (hid:kW id) (ha:kW a) (hn:kW n) (h:(vI (kQ E pp) ps pp e sz).S X F s w) (h0:lC sz s id a n≠0):
 Calls prog 79 #[.pointer (some ⟨ps,0,none⟩),.int .i64 id,.int .i64 a,.int .i64 n] w fun r w'=>r= .returned (.tuple #[.pointer none,kM ev (lC sz s id a n)])∧Below w.heap.size w w':=by
 have hE:=xH h;obtain⟨⟨⟨bl,C⟩,q⟩,hi⟩:=h;unfold lC at h0 ⊢;cases hx:mW s.L id with
 |none=>
  have A:=ah (IB hE q.b hid (Cx q hx));simp only[show kM ev 4= .iface 336 (.pointer (some (ev 4))) from rfl];clear q hi hE hx h0 ha hn hid;go_in
  go_wp2_with fail;refine A.out.mono ?_;rintro r w1 ⟨rfl,hb1⟩;go_wp2;go_ret2
  exact⟨rfl,hb1⟩
 |some x=>
  rw[hx] at h0;simp only at h0 ⊢;obtain⟨c,hc,rfl,hf⟩:=vW q hx;have A:=ah (x9 q.b hid hf);have c1:=q.b.c.gC 1;have cl:=q.b.c.lt;have gs:w.cell? ⟨1,0,none⟩=some (.iface 336 (.pointer (some (ev 2)))):=(hE.at 2 (by decide) (by decide)).1;have gl:1<w.heap.size:=(hE.at 2 (by decide) (by decide)).2;have hbad:a<0∨n<0∨(sz:Int)<a∨(sz:Int)-a<n:=Classical.byContradiction fun hg=>h0 (if_neg hg)
  rw[if_pos hbad];simp only[show kM ev 2= .iface 336 (.pointer (some (ev 2))) from rfl];obtain⟨pb,hpb⟩:=eY c.2.1;rw[←hpb] at A;have D:(decide (a<0)=true)∨(decide (a<0)=false∧decide (n<0)=true)∨(decide (a<0)=false∧decide (n<0)=false∧decide ((sz:Int)<a)=true)∨(decide (a<0)=false∧decide (n<0)=false∧decide ((sz:Int)<a)=false∧IntKind.i64.wrap ((sz:Int)-a)=(sz:Int)-a∧decide ((sz:Int)-a<n)=true):=by
   by_cases p1:a<0
   ·exact .inl (dQt p1)
   by_cases p2:n<0
   ·exact .inr (.inl ⟨dQf p1,dQt p2⟩)
   by_cases p3:(sz:Int)<a
   ·exact .inr (.inr (.inl ⟨dQf p1,dQf p2,dQt p3⟩))
   ·exact .inr (.inr (.inr ⟨dQf p1,dQf p2,dQf p3,aY _ om,dQt om⟩))
  clear q hi hE hx h0 ha hn hid hc hf hpb hbad hsz;rcases D with d1|⟨d1,d2⟩|⟨d1,d2,d3⟩|⟨d1,d2,d3,wl,d4⟩;all_goals
   go_in
   go_wp2_with fail;refine A.out.mono ?_;rintro r w1 ⟨rfl,hw1⟩;obtain rfl:=hw1.symm;go_wp2_with fail;go_quiet (fail);go_wp2;go_ret2
   exact⟨rfl,jY⟩
def vG (sz:Nat) (s:St) (id a n:Int):List UInt8:=
 match mW s.L id with
 |none=>[]
 |some x=>if lC sz s id a n=0 then(x.b.drop a.toNat).take n.toNat else[]
theorem zq (hsz:sz≤65536) (hid:kW id) (ha:kW a) (hn:kW n) (h:(vI (kQ E pp) ps pp e sz).S X F s w):
 Calls prog 33 #[.pointer (some ⟨ps,0,none⟩),.int .i64 id,.int .i64 a,.int .i64 n] w fun r w'=>r= .returned (.tuple #[.string ⟨(vG sz s id a n).toArray⟩,kM ev (lC sz s id a n)])∧Below w.heap.size w w':=by
 by_cases h0:lC sz s id a n=0
 ·obtain⟨x,hx,a0,n0,a1,an⟩:=zo h0
  have hr:vG sz s id a n=(x.b.drop a.toNat).take n.toNat:=by unfold vG;rw[hx];simp only;rw[if_pos h0]
  rw[h0,hr];simp only[show kM ev 0= .nilIface from rfl];obtain⟨⟨⟨bl,C⟩,q⟩,hi⟩:=h;obtain⟨c,hc,rfl,hf⟩:=vW q hx;have A:=ah (EY hsz q.b hid hf a0 n0 an);obtain⟨b1,b2⟩:=q.b.b c hc;have x2:=b1.gC 2;have xl:=b1.lt;have wl:IntKind.i64.wrap (a+n)=a+n:=aY _ om;have CU:=cut_run w c.2.2 sz a n a0 n0 an;have RD:=read_run b2 (hi.len c.1 (mH hx).1) a0 n0 an;obtain⟨v,hv⟩:=eY (Value.slice (some ⟨c.2.2,if sz=a.toNat then 0 else a.toNat,none⟩) n.toNat (sz-a.toNat));obtain⟨t,ht⟩:=eY (((c.1.b.drop a.toNat).take n.toNat).toArray);obtain⟨pb,hpb⟩:=eY c.2.1;obtain⟨gb,hgb⟩:=eY c.2.2;rw[←hv] at CU RD;rw[←ht] at RD ⊢;rw[←hpb] at x2 xl A;rw[←hgb] at x2 CU;clear q hi hx hc hf b1 b2 hpb hgb hv ht h0 hr hid ha hn a0 n0 a1 an hsz;go_in
  go_wp2_with fail;refine A.out.mono ?_;rintro r w1 ⟨rfl,hw1⟩;obtain rfl:=hw1.symm;go_wp2;go_ret2
  exact⟨rfl,aL _ _⟩
 ·have A:=ah (IE hsz hid ha hn h h0)
  have hr:vG sz s id a n=[]:=by
   unfold vG;split
   ·rfl
   ·rw[if_neg h0]
  rw[hr];have hcc:lC sz s id a n=2∨lC sz s id a n=4:=uO.resolve_left h0;obtain⟨p,hp⟩: ∃p,kM ev (lC sz s id a n)= .iface 336 (.pointer (some p)):=by rcases hcc with q|q<;>(rw[q];exact⟨_,rfl⟩)
  rw[hp] at A ⊢;clear h h0 hr hcc hid ha hn hp hsz;go_in
  go_wp2_with fail;refine A.out.mono ?_;rintro r w1 ⟨rfl,hb1⟩;go_wp2;go_ret2
  exact⟨rfl,hb1⟩
theorem IG {b t:List UInt8} {a:Nat}:(lH b).take a++t.map (fun x=>Value.int .u8 (x.toNat:Int))++(lH b).drop (a+(t.map fun x=>Value.int .u8 (x.toNat:Int)).length)=lH (r9 b t a):=by
 unfold lH r9;simp only[dz,List.map_take,List.map_drop,dD,bT]
theorem zS (hsz:sz≤65536) (hid:kW id) (ha:kW a) {t:ByteArray} (ht:t.size≤65536) (h:(vI (kQ E pp) ps pp e sz).S X F s w):
 Calls prog 34 #[.pointer (some ⟨ps,0,none⟩),.int .i64 id,.int .i64 a,.string t] w (EPost (vI (kQ E pp) ps pp e sz).S X F (nZ sz s id a t.data.toList).1 w (kM ev (nZ sz s id a t.data.toList).2)):=by
 have hE:=xH h;have SAME:=ah (fun r=>zm (r:=r) h);have HI:=h.2.write id a t.data.toList;obtain⟨T,hT⟩:=eY t.data.toList;have hTl:T.length=t.size:=by rw[hT,Lib.size_eq]
 have fT:kW (t.size:Int):=⟨om,om⟩;rw[←hT] at HI ⊢;by_cases h0:lC sz s id a t.size=0
 ·obtain⟨x,hx,a0,n0,a1,an⟩:=zo h0
  unfold nZ at HI ⊢;rw[hx] at HI ⊢;simp only at HI ⊢;have hb0: ¬(a<0∨(sz:Int)<a∨(sz:Int)-a<T.length):=by rw[hTl];omega
  rw[if_neg hb0] at HI ⊢;obtain⟨⟨⟨bl,C⟩,q⟩,hi⟩:=h;obtain⟨c,hc,rfl,hf⟩:=vW q hx;have A:=EY hsz q.b hid hf a0 n0 an;obtain⟨b1,b2⟩:=q.b.b c hc;have x3:=b1.gC 3;have xl:=b1.lt;by_cases h1:1<c.1.h
  ·rw[if_pos h1]
   have d1:decide ((1:Int)<(c.1.h:Int))=true:=dQt om;have gs:w.cell? ⟨6,0,none⟩=some (.iface 336 (.pointer (some (ev 6)))):=(hE.at 6 (by decide) (by decide)).1;have gl:6<w.heap.size:=(hE.at 6 (by decide) (by decide)).2;simp only[show kM ev 6= .iface 336 (.pointer (some (ev 6))) from rfl];obtain⟨hh,hhe⟩:=eY c.1.h;obtain⟨pb,hpb⟩:=eY c.2.1;rw[←hhe] at x3 d1;rw[←hpb] at x3 xl A;have HA:=ah A;clear q hi hE hx hc hf b1 b2 hhe hpb A HI h1 h0 hT hTl fT ht hid ha a0 n0 a1 an hsz hb0;go_in
   go_wp2_with fail;refine HA.out.mono ?_;rintro r w1 ⟨rfl,hw1⟩;obtain rfl:=hw1.symm;go_wp2;go_ret;exact SAME.out _ _ (aL _ _)
  ·rw[if_neg h1] at HI
   rw[if_neg h1];have d1:decide ((1:Int)<(c.1.h:Int))=false:=dQf om;have x2:=b1.gC 2;have hlen:=hi.len c.1 (mH hx).1;have CU:=cutl_run w c.2.2 sz a a0 a1;have fin: ∀w',w'=w.setCells c.2.2 (if sz=a.toNat then 0 else a.toNat) (t.data.toList.map fun x=>Value.int .u8 (x.toNat:Int))→EPost (vI (kQ E pp) ps pp e sz).S X F (s.put (c.1.wr (r9 c.1.b T a.toNat))) w .nilIface (.returned .nilIface) w':=fun w' hw'=>by
    subst hw';rw[←hT];have k:Keep [c.2.2] w (w.setCells c.2.2 (if sz=a.toNat then 0 else a.toNat) (T.map fun x=>Value.int .u8 (x.toNat:Int))):=ou _ _ (Keep.refl _ _) (.inl sI);refine Xm q hi hc rfl k (fun q t=>.inr (by simpa using t)) (b1.keep k (by simpa using q.b.two hc)) ?_ HI;by_cases e0:sz=a.toNat
    ·have tn:T=[]:=bM.1 om
     subst tn;show jR _ _ (lH (r9 c.1.b [] a.toNat));have:r9 c.1.b [] a.toNat=c.1.b:=by unfold r9;simp
     rw[this];exact b2
    ·rw[if_neg e0]
     have:=b2.sets (T.map fun x=>Value.int .u8 (x.toNat:Int)) a.toNat (by unfold lH;simp only[dD];omega);rw[IG] at this;exact this
   have CP:=fun ty=>run_copy_string (P:=prog) w 75 9 ty 5 c.2.2 (if sz=a.toNat then 0 else a.toNat) (sz-a.toNat) (sz-a.toNat) t kR byteT om
    (fun j hj=>by rw[if_neg om,b2.c _ _ (Cy om)];rfl) (fun j hj=>by rw[if_neg om];exact b2.f _ (by unfold lH;rw[dD];omega))
   have FIN:=ah fin;obtain⟨o,ho⟩:=eY ((if sz=a.toNat then 0 else a.toNat));obtain⟨m,hm⟩:=eY (sz-a.toNat);obtain⟨hh,hhe⟩:=eY c.1.h;obtain⟨pb,hpb⟩:=eY c.2.1;obtain⟨gb,hgb⟩:=eY c.2.2;rw[←ho] at CU CP FIN;rw[←hm] at CU CP;rw[←hhe] at x3 d1;rw[←hpb] at x3 x2 xl A;rw[←hgb] at x2 CU CP FIN;obtain⟨W1,hW1⟩:=eX (w.setCells gb o (t.data.toList.map fun x=>Value.int .u8 (x.toNat:Int)));rw[hW1] at CP FIN;have HA:=ah A;simp only[show kM ev 0= .nilIface from rfl];clear q hi hE hx hc hf b1 b2 hhe hpb hgb ho hm A HI h1 h0 hT hTl fT ht hid ha a0 n0 a1 an hsz hb0 fin hlen hW1 SAME;go_in
   go_wp2_with fail;refine HA.out.mono ?_;rintro r w1 ⟨rfl,hw1⟩;obtain rfl:=hw1.symm;go_wp2;go_ret;exact FIN.out _ rfl
 ·have A:=ah (IE hsz hid ha fT h h0)
  have hcc:lC sz s id a t.size=2∨lC sz s id a t.size=4:=uO.resolve_left h0;have hw:nZ sz s id a T=(s,lC sz s id a t.size):=by
   revert h0;unfold nZ lC;split
   ·intro _;rfl
   ·rw[hTl]
    by_cases hb:a<0∨(t.size:Int)<0∨(sz:Int)<a∨(sz:Int)-a<(t.size:Int)
    ·rw[if_pos hb,if_pos om];intro _;rfl
    ·rw[if_neg hb];intro q;exact absurd rfl q
  rw[hw];obtain⟨p,hp⟩: ∃p,kM ev (lC sz s id a t.size)= .iface 336 (.pointer (some p)):=by rcases hcc with q|q<;>(rw[q];exact⟨_,rfl⟩)
  simp only;rw[hp] at A ⊢;clear h h0 hcc hid ha fT hp hsz HI hE hw hT hTl ht;go_in
  go_wp2_with fail;refine A.out.mono ?_;rintro r w1 ⟨rfl,hb1⟩;go_wp2;go_ret;exact SAME.out _ _ hb1
end
theorem flat_sub {α:Type} {f:α→List Nat} {l l':List α} (h:l.Sublist l'):(l.flatMap f).Sublist (l'.flatMap f):=by
 induction h with
 |slnil=>exact List.Sublist.refl _
 |cons a _ ih=>rw[dL];exact ih.trans (List.sublist_append_right _ _)
 |cons_cons a _ ih=>rw[dL,dL];exact(List.Sublist.refl _).append ih
def Us (C:BkL) (id:Int):BkL:=C.filter fun a=>a.1.id !=id
section
variable {w w':World} {S:List Nat} {ps pp bl sz:Nat} {C:BkL} {L:List Bk} {last last':Int} {c:Bk×Nat×Nat} {x y:Bk} {id:Int}
theorem Xn {b:Nat} (h:b∈sws ps bl (Us C id)):b∈sws ps bl C:=by
 rcases mU.1 h with q|q|q
 ·exact mU.2 (.inl q)
 ·exact mU.2 (.inr (.inl q))
 ·obtain⟨c,hc,hb⟩:=pK.1 q
  exact mU.2 (.inr (.inr (pK.2 ⟨c,(bG.1 hc).1,hb⟩)))
theorem QC:D8 (Da C) (.int .i64 id)=Da (Us C id):=by
 unfold D8 Da Us;rw[iF];congr 1
 refine jq fun a _=> ?_
 simp only[Function.comp];by_cases q:a.1.id=id
 ·have r:Lit.int .i64 a.1.id=Lit.int .i64 id:=by rw[q]
  rw[dQt r];simp[q]
 ·have: ¬(Lit.int .i64 a.1.id=Lit.int .i64 id):=fun r=>q (by injection r)
  simp[q,this]
theorem StB.del (h:StB w ps pp bl sz C L last) (hc:c∈C) (hi:c.1.id=id) (k:Keep S w w') (hs: ∀q∈S,q=c.2.1∨q=c.2.2∨q=bl) (hm:qO prog 3 w' bl (D8 (Da C) (.int .i64 id))):
 StB w' ps pp bl sz (Us C id) (Cw L id) last:=by
 have off: ∀b,b≠c.2.1→b≠c.2.2→b≠bl→b∉S:=fun b n1 n2 n3 q=>(hs b q).elim n1 fun r=>r.elim n2 n3
 have mc: ∀{a:Bk×Nat×Nat},a∈C→a.2.1∈cws C∧a.2.2∈cws C:=fun ha=>⟨pK.2 ⟨_,ha,.inl rfl⟩,pK.2 ⟨_,ha,.inr rfl⟩⟩
 refine⟨h.c.keep k (off _ (h.ne.2 _ (mc hc).1).1.symm (h.ne.2 _ (mc hc).2).1.symm h.ne.1),by rw[←QC];exact hm,?_,fun a ha=> ?_,?_⟩
 ·unfold Us Cw
  rw[←h.l,iF];rfl
 ·obtain⟨ha1,ha2⟩:=bG.1 ha
  have hne:a.1.id≠c.1.id:=by rw[hi];simpa using ha2
  obtain⟨n1,n2,n3,n4⟩:=h.apart ha1 hc hne;exact⟨(h.b a ha1).1.keep k (off _ n1 n2 (h.ne.2 _ (mc ha1).1).2),(h.b a ha1).2.keep k (off _ n3 n4 (h.ne.2 _ (mc ha1).2).2)⟩
 ·have sb:(cws (Us C id)).Sublist (cws C):=flat_sub gF
  exact List.Nodup.sublist ((sb.cons_cons bl).cons_cons ps) h.nd
end
section
variable {pd pc pz e:Nat} {mn:Int} {O:List (List Int)} {ev:Nat→Addr} {w0:World} {E:sG pd pc pz e mn O ev w0} {X F S:List Nat} {w w':World} {ps pp sz:Nat} {s:St} {id a n:Int} {bl:Nat} {C:BkL} {c:Bk×Nat×Nat} {x y:Bk} {last:Int} {L:List Bk}
theorem IJ (hid:kW id) (k:Int) (hlast:s.p.last<4611686018427387904) (h:(vI (kQ E pp) ps pp e sz).S X F s w):
 Calls prog 30 #[.pointer (some ⟨ps,0,none⟩),.int .i64 k,.int .i64 id] w (EPost (vI (kQ E pp) ps pp e sz).S X F (sP e s k id).1 w (kM ev (sP e s k id).2)):=by
 have hE:=xH h;have SAME:=ah (fun r=>zm (r:=r) h);have HI:=h.2.drop k id;obtain⟨⟨⟨bl,C⟩,q⟩,hi⟩:=h;revert HI;unfold sP;cases hx:mW s.L id with
 |none=>
  intro _;have A:=ah (IB hE q.b hid (Cx q hx));simp only[show kM ev 4= .iface 336 (.pointer (some (ev 4))) from rfl];clear q hi hE hx;go_in
  go_wp2_with fail;refine A.out.mono ?_;rintro r w1 ⟨rfl,hb1⟩;go_wp2;go_ret;exact SAME.out _ _ hb1
 |some x=>
  obtain⟨c,hc,rfl,hf⟩:=vW q hx;have A:=ah (x9 q.b hid hf);have hxm:=mH hx;have c0:=q.b.c.gC 0;have cl:=q.b.c.lt;have PD:=ah (Xj (E:=E) (show PoX E X _ pp s.p w from q.s));have WK:Hid (Calls prog 64 #[.pointer (some ⟨pd,0,none⟩)] w fun r w'=>r= .returned (.int .i64 s.p.d.H.length)∧w'=w):=by
   obtain⟨⟨bt,bg,vr,vw,t⟩,_⟩:=(show PoX E X _ pp s.p w from q.s);exact E.work t.s
  simp only;obtain⟨pb,hpb⟩:=eY c.2.1;by_cases hw:mG s.p k=false
  ·rw[if_pos hw]
   intro _;have gs:w.cell? ⟨1,0,none⟩=some (.iface 336 (.pointer (some (ev 2)))):=(hE.at 2 (by decide) (by decide)).1;have gl:1<w.heap.size:=(hE.at 2 (by decide) (by decide)).2;simp only[show kM ev 2= .iface 336 (.pointer (some (ev 2))) from rfl];unfold mG at hw;have hw':=of_decide_eq_false hw;have hd:decide (k<0)=true∨(decide (k<0)=false∧decide ((s.p.d.H.length:Int)≤k)=true):=by
    by_cases h0:k<0
    ·exact .inl (dQt h0)
    ·exact .inr ⟨dQf h0,dQt om⟩
   obtain⟨n,hn⟩:=eY s.p.d.H.length;rw[←hn] at WK hd;rw[←hpb] at A;clear q hi hE hx hxm hc hf hpb hw hw' hid hlast hn;rcases hd with d0|⟨d0,d1⟩
   ·go_in
    go_wp2_with fail;refine A.out.mono ?_;rintro r w1 ⟨rfl,hw1⟩;obtain rfl:=hw1.symm;go_wp2;go_ret;exact SAME.out _ _ (aL _ _)
   ·go_in
    go_wp2_with fail;refine A.out.mono ?_;rintro r w1 ⟨rfl,hw1⟩;obtain rfl:=hw1.symm;go_wp2_with fail;refine PD.out.mono ?_;rintro r w1 ⟨rfl,hw1⟩;obtain rfl:=hw1.symm;go_wp2_with fail;refine WK.out.mono ?_;rintro r w1 ⟨rfl,hw1⟩;obtain rfl:=hw1.symm;go_wp2;go_ret;exact SAME.out _ _ (aL _ _)
  rw[if_neg hw];have hw1:mG s.p k=true:=by simpa using hw
  unfold mG at hw1;have hw2:=of_decide_eq_true hw1;have k0:decide (k<0)=false:=dQf om;have k1:decide ((s.p.d.H.length:Int)≤k)=false:=dQf om;obtain⟨b1,b2⟩:=q.b.b c hc;have x3:=b1.gC 3;have xf:=b1.f 3 (by simp[bkC]);have xl:=b1.lt;have hh:=hi.hs c.1 hxm.1;obtain⟨H,hH⟩: ∃H:Int,H=(c.1.h:Int)-1:=⟨_,rfl⟩;have wl:IntKind.i64.wrap ((c.1.h:Int)-1)=H:=by rw[hH];exact aY _ om
  obtain⟨n,hn⟩:=eY s.p.d.H.length;rw[←hn] at WK k1;have kk:Keep [c.2.1] w (w.setCell ⟨c.2.1,3,none⟩ (.int .i64 H)):=(Keep.refl _ _).setCell (p:=⟨c.2.1,3,none⟩) (.inl sI) _;have B1:=b1.store 3 (.int .i64 H) (by simp[bkC]);by_cases h1:c.1.h=1
  ·rw[if_pos h1]
   intro HI;have H0:H=0:=om;subst H0;have nbl:=(q.b.ne.2 c.2.1 (pK.2 ⟨c,hc,.inl rfl⟩)).2;have nps:=(q.b.ne.2 c.2.1 (pK.2 ⟨c,hc,.inl rfl⟩)).1;obtain⟨w1,hw1'⟩: ∃w1,w.setCell ⟨c.2.1,3,none⟩ (.int .i64 0)=w1:=⟨_,rfl⟩;rw[hw1'] at kk B1;have hm:=q.b.m.keep kk (by simpa using nbl.symm);obtain⟨w2,hd,hm2,ht⟩:=hm.drop (t:=158) uV gQ (keyOf_int_mk bB (wf64 hid)) 0;have k2:Keep [bl] w1 w2:=mJ ht (.inl sI);have k12:Keep [c.2.1,bl] w w2:=(kk.mono (fun q t=>by simp at t;subst t;simp)).then (k2.mono (fun q t=>by simp at t;subst t;simp));have SB:=StB.del (id:=id) q.b hc hxm.2 k12 (fun q t=>by simp at t;rcases t with t|t;exact .inl t;exact .inr (.inr t)) hm2;have hk:Keep ((zh (kQ E pp) ps pp sz).ws (bl,C)++[]) w w2:=k12.mono fun q t=>by
    rw[dw];simp at t;rcases t with rfl|rfl
    ·exact mU.2 (.inr (.inr (pK.2 ⟨c,hc,.inl rfl⟩)))
    ·exact mU.2 (.inr (.inl rfl))
   have hb':(zh (kQ E pp) ps pp sz).B (bl,Us C id) ⟨s.p,Cw s.L id,s.last⟩ w2:=SB;obtain⟨X',R2⟩:=Ov.Run.put (V:=zh (kQ E pp) ps pp sz) (m:=(bl,C)) (m':=(bl,Us C id)) (t':=⟨s.p,Cw s.L id,s.last⟩) (L':=[]) (Ov.Run.start q) hk (fun q t=>.inl (Xn t)) (fun y t=>aC (q.lim y (Xn t)).2 k12.size) (fun q t=>by cases t) hb' rfl;have R3:=R2.go (show Below w2.heap.size w2 w2.drew from(aL _ _).drew);have GV:=yZ (E:=E) (pp:=pp) k c.1.o (hi.p.Ip _ (hi.t c.1 hxm.1)) hlast (show PoX E X' _ pp s.p w2.drew from R3.at_.s);have fin: ∀r en w3,EPost (kQ E pp).S X' ((zh (kQ E pp) ps pp sz).ws (bl,Us C id)++([]++F)) (lZ e s.p k c.1.o).1 w2.drew r en w3→en= .returned r∧EPost (vI (kQ E pp) ps pp e sz).S X F ⟨(lZ e s.p k c.1.o).1,Cw s.L id,s.last⟩ w .nilIface (.returned .nilIface) w3:=fun r en w3 hp=>by
    obtain⟨h1,X4,R4,_⟩:=R3.dep hp;exact⟨h1,FEnv.sV R4.fin HI⟩
   have FIN:=ah fin;have GVH:=ah (show Calls prog 15 #[.pointer (some ⟨pp,0,none⟩),.int .i64 k,.agg #[.int .i64 c.1.o.1,.int .i64 c.1.o.2]] w2.drew (EPost (kQ E pp).S X' ((zh (kQ E pp) ps pp sz).ws (bl,Us C id)++([]++F)) (lZ e s.p k c.1.o).1 w2.drew (kM ev (lZ e s.p k c.1.o).2)) from GV);have C1:=q.b.c.keep kk (by simpa using nps.symm);have y2:=C1.gC 2;have yl:=C1.lt;have y3:=B1.gC 3;have y3l:=B1.lt;have z0:=SB.c.gC 0;have zl:=SB.c.lt;have B2:=B1.keep k2 (by simpa using nbl);have u0:=B2.gC 0;have u1:=B2.gC 1;have ul:=B2.lt;have hx1:c.1.h=1:=h1;rw[hx1] at x3 wl;rw[←hpb] at x3 xl xf A y3 y3l u0 u1 ul hw1';simp only[show kM ev 0= .nilIface from rfl];clear q hi hE hx hxm hc hf hpb hw hw1 hw2 hid hlast hn b1 b2 hh hH kk B1 h1 HI fin SAME nbl nps hm hm2 ht k2 k12 SB hk hb' R2 R3 GV C1 B2 hx1;go_in
   go_wp2_with fail;refine A.out.mono ?_;rintro r w1' ⟨rfl,hw1⟩;obtain rfl:=hw1.symm;go_wp2_with fail;refine PD.out.mono ?_;rintro r w1' ⟨rfl,hw1⟩;obtain rfl:=hw1.symm;go_wp2_with fail;refine WK.out.mono ?_;rintro r w1' ⟨rfl,hw1⟩;obtain rfl:=hw1.symm;go_wp2_with fail;refine lJ 9 kR kR ?_;simp only[aQ,aV,aP,aU];repeat still_step
   refine wpStill_nil ?_;go_wp2_with fail;refine GVH.out.mono ?_;rintro r w3 hp;obtain⟨rfl,FF⟩:=FIN.out _ _ _ hp;have HF:=ah FF;clear hp FF;go_wp2;go_ret;exact HF.out
  ·rw[if_neg h1]
   intro HI;have d0:(H==0)=false:=by simp;omega
   have fin: ∀w',w'=w.setCell ⟨c.2.1,3,none⟩ (.int .i64 H)→EPost (vI (kQ E pp) ps pp e sz).S X F (s.put (c.1.hold (c.1.h-1))) w .nilIface (.returned .nilIface) w':=fun w' hw'=>by
    subst hw';refine Xm q hi hc rfl kk (fun q t=>.inl (by simpa using t)) ?_ (b2.keep kk (by simpa using(q.b.two hc).symm)) HI;have:bkC c.2.2 sz (c.1.hold (c.1.h-1))=(bkC c.2.2 sz c.1).set 3 (.int .i64 H):=by
     have e1:((c.1.h-1:Nat):Int)=H:=om;show[_,_,_,Value.int .i64 ((c.1.h-1:Nat):Int)]=_;rw[e1];rfl
    rw[this];exact B1
   have FIN:=ah fin;have y3:=B1.gC 3;have yl:=B1.lt;obtain⟨hn',hne⟩: ∃hh,hh=c.1.h:=⟨_,rfl⟩;rw[←hne] at x3 wl;rw[←hpb] at x3 xl xf A FIN y3 yl;obtain⟨W1,hW1⟩:=eX (w.setCell ⟨pb,3,none⟩ (.int .i64 H));rw[hW1] at y3 yl FIN;simp only[show kM ev 0= .nilIface from rfl];clear q hi hE hx hxm hc hf hpb hw hw1 hw2 hid hlast hn b1 b2 hh hH kk B1 h1 HI fin hne SAME;go_in
   go_wp2_with fail;refine A.out.mono ?_;rintro r w1 ⟨rfl,hw1⟩;obtain rfl:=hw1.symm;go_wp2_with fail;refine PD.out.mono ?_;rintro r w1 ⟨rfl,hw1⟩;obtain rfl:=hw1.symm;go_wp2_with fail;refine WK.out.mono ?_;rintro r w1 ⟨rfl,hw1⟩;obtain rfl:=hw1.symm;go_wp2;go_ret;exact FIN.out _ rfl
end
theorem QG (n:Nat) (h:n≤65536) (W:World):(convert 75 9 (.slice (some ⟨W.heap.size,0,none⟩) n n)).run prog (W.alloc (.cells (lH (List.replicate n 0)).toArray 5))= .ok (.string ⟨(List.replicate n (0:UInt8)).toArray⟩) (W.alloc (.cells (lH (List.replicate n 0)).toArray 5)):=by
 have L:=jR.new W (lH (List.replicate n 0)) 5;have:=run_convert_bytes_back (P:=prog) (W.alloc (.cells (lH (List.replicate n 0)).toArray 5)) 75 9 5 ⟨W.heap.size,0,none⟩ n (List.replicate n 0) kR kR kR (fun j hj=>by
  rw[addr_add,bK,L.c j _ (Cy hj)])
 rw[jE] at this;exact this
