/- Lemmas and contracts for the claim's last text: StPl, Over, StB, StOps, StDrop, StJ. -/
import Derived.Test.YtehhldljdakgeaaGreatDoorQa01
import Derived.Test.YtehhldljdakgeaaGreatDoorQa33
set_option linter.unusedSimpArgs false
set_option linter.unusedVariables false
set_option maxHeartbeats 16000000
set_option maxRecDepth 100000
namespace Go.Proofs.YtehhldljdakgeaaGreatDoor
open Go.RowKit Go.Maps
attribute [local go_sem ↓] aJ aK
structure Bk where
 id:Int
 o:Ob
 b:List UInt8
 h:Nat
structure St where
 p:Po
 L:List Bk
 last:Int
def pG (L:List Bk) (id:Int):Option Bk:=L.find? fun x=>x.id==id
def delB (L:List Bk) (id:Int):List Bk:=L.filter fun x=>x.id !=id
def EG (L:List Bk) (y:Bk):List Bk:=L.map fun x=>if x.id=y.id then y else x
def Bk.hold (x:Bk) (h:Nat):Bk:=⟨x.id,x.o,x.b,h⟩
def Bk.wr (x:Bk) (b:List UInt8):Bk:=⟨x.id,x.o,b,x.h⟩
def St.atP (s:St) (p:Po):St:=⟨p,s.L,s.last⟩
def St.put (s:St) (y:Bk):St:=⟨s.p,EG s.L y,s.last⟩
def sU (e:Nat) (r:Po×Nat×Ob):Po:=if r.2.1=8 then(match r.1.W.getLast? with|some t=>(o8 e r.1 t).1|none=>r.1) else r.1
def yG (sz:Nat) (s:St) (o:Ob):Bk:=⟨s.last+1,o,List.replicate sz 0,1⟩
def uq (mn:Int) (O:List (List Int)) (e sz:Nat) (s:St) (k v:Int):St×Nat×Int:=
 if (jO mn O e s.p k v).2.1=0 then(⟨(jO mn O e s.p k v).1,s.L++[yG sz s (jO mn O e s.p k v).2.2],s.last+1⟩,0,s.last+1)
 else(s.atP (sU e (jO mn O e s.p k v)),(jO mn O e s.p k v).2.1,0)
def Et (s:St) (id:Int):St×Nat:=
 match pG s.L id with
 |none=>(s,4)
 |some x=>if 16≤x.h then(s,10) else(s.put (x.hold (x.h+1)),0)
def dropS (e:Nat) (s:St) (k id:Int):St×Nat:=
 match pG s.L id with
 |none=>(s,4)
 |some x=>if lU s.p k=false then(s,2) else if x.h=1 then(⟨(mg e s.p k x.o).1,delB s.L id,s.last⟩,0) else(s.put (x.hold (x.h-1)),0)
def mQ (sz:Nat) (s:St) (id a n:Int):Nat:=
 match pG s.L id with
 |none=>4
 |some _=>if a<0∨n<0∨(sz:Int)<a∨(sz:Int)-a<n then 2 else 0
def q9 (b t:List UInt8) (a:Nat):List UInt8:=b.take a++t++b.drop (a+t.length)
def sG (sz:Nat) (s:St) (id a:Int) (t:List UInt8):St×Nat:=
 match pG s.L id with
 |none=>(s,4)
 |some x=>if a<0∨(sz:Int)<a∨(sz:Int)-a<t.length then(s,2) else if 1<x.h then(s,6) else(s.put (x.wr (q9 x.b t a.toNat)),0)
def Sg (mn:Int) (O:List (List Int)) (e sz:Nat) (s:St) (k v id:Int):St×Nat×Int:=
 match pG s.L id with
 |none=>(s,4,0)
 |some x=>if x.h=1 then(s,0,id) else
  if (uq mn O e sz s k v).2.1=0 then(((uq mn O e sz s k v).1.put ((yG sz s (jO mn O e s.p k v).2.2).wr x.b)).put (x.hold (x.h-1)),0,s.last+1)
  else uq mn O e sz s k v
structure xS (e sz:Nat) (s:St):Prop where
 p:mO e s.p
 w:s.p.W=[]
 g:s.p.G=[]
 cl:s.p.cl=false
 asc:(s.L.map (·.id)).Pairwise (· < ·)
 rng: ∀x∈s.L,1≤x.id∧x.id≤s.last
 len: ∀x∈s.L,x.b.length=sz
 hs: ∀x∈s.L,1≤x.h∧x.h≤16
 t: ∀x∈s.L,x.o∈s.p.T
 nd:(s.L.map (·.o)).Nodup
 l0:0≤s.last
section
variable {mn:Int} {O:List (List Int)} {e sz:Nat} {s:St} {k v id:Int} {x y:Bk} {L:List Bk}
theorem pR (h:pG L id=some x):x∈L∧x.id=id:=by
 unfold pG at h;have h2:=gY h;exact⟨dH h,by simpa using h2⟩
theorem zy (hn:(L.map (·.id)).Nodup) (hx:x∈L):pG L x.id=some x:=by
 induction L with
 |nil=>cases hx
 |cons a L ih=>
  rw[bP,aS] at hn;unfold pG at ih ⊢;rw[gu];rcases aB.1 hx with rfl|q
  ·simp
  ·have:(a.id==x.id)=false:=by
    simp only[beq_eq_false_iff_ne,ne_eq];exact fun r=>hn.1 (r▸bJ.2 ⟨x,q,rfl⟩)
   rw[this];exact ih hn.2 q
theorem xS.ndI (h:xS e sz s):(s.L.map (·.id)).Nodup:=h.asc.imp fun q=>om
theorem Qf:(EG L y).map (·.id)=L.map (·.id):=by
 unfold EG;rw[iE];refine fO fun x hx=> ?_
 simp only[Function.comp];split
 ·rename_i q;exact q.symm
 ·rfl
theorem putB_mem {z:Bk} (h:z∈EG L y):(z=y∧∃x∈L,x.id=y.id)∨(z∈L∧z.id≠y.id):=by
 unfold EG at h;obtain⟨x,hx,he⟩:=bJ.1 h;split at he
 ·rename_i q;exact .inl ⟨he.symm,x,hx,q⟩
 ·rename_i q;subst he;exact .inr ⟨hx,q⟩
theorem YG (h: ∀x∈L,x.id=y.id→x.o=y.o):(EG L y).map (·.o)=L.map (·.o):=by
 unfold EG;rw[iE];refine fO fun x hx=> ?_
 simp only[Function.comp];split
 ·rename_i q;exact(h x hx q).symm
 ·rfl
theorem xS.put (h:xS e sz s) (hx:pG s.L id=some x) (hi:y.id=x.id) (ho:y.o=x.o) (hb:y.b.length=sz) (hh:1≤y.h∧y.h≤16):xS e sz (s.put y):=by
 obtain⟨m1,m2⟩:=pR hx;have key: ∀z∈s.L,z.id=y.id→z=x:=fun z hz q=>by
  have a:=zy h.ndI hz;rw[q,hi,m2,hx] at a;exact(aI a).symm
 have hz: ∀z∈(s.put y).L,z=y∨z∈s.L:=fun z q=>(putB_mem q).imp (·.1) (·.1)
 refine⟨h.p,h.w,h.g,h.cl,?_,fun z q=> ?_,fun z q=> ?_,fun z q=> ?_,fun z q=> ?_,?_,h.l0⟩
 ·show((EG s.L y).map (·.id)).Pairwise (· < ·)
  rw[Qf];exact h.asc
 ·rcases hz z q with rfl|r
  ·rw[hi];exact h.rng x m1
  ·exact h.rng z r
 ·rcases hz z q with rfl|r
  ·exact hb
  ·exact h.len z r
 ·rcases hz z q with rfl|r
  ·exact hh
  ·exact h.hs z r
 ·rcases hz z q with rfl|r
  ·rw[ho];exact h.t x m1
  ·exact h.t z r
 ·show((EG s.L y).map (·.o)).Nodup
  rw[YG fun z q r=>by rw[key z q r,ho]];exact h.nd
theorem xS.hold (h:xS e sz s) (id:Int):xS e sz (Et s id).1:=by
 unfold Et;split
 ·exact h
 ·rename_i x hx
  split
  ·exact h
  ·rename_i hn
   have:=h.hs x (pR hx).1;exact h.put hx rfl rfl (h.len x (pR hx).1) ⟨by show 1≤x.h+1;omega,by show x.h+1≤16;omega⟩
theorem Dn {b t:List UInt8} {a:Nat} (h:a+t.length≤b.length):(q9 b t a).length=b.length:=by
 unfold q9;simp only[aV,bC,bY];omega
theorem xS.write (h:xS e sz s) (id a:Int) (t:List UInt8):xS e sz (sG sz s id a t).1:=by
 unfold sG;split
 ·exact h
 ·rename_i x hx
  split
  ·exact h
  ·rename_i hb
   split
   ·exact h
   ·have hl:=h.len x (pR hx).1
    exact h.put hx rfl rfl (by show(q9 x.b t a.toNat).length=sz;rw[Dn om];exact hl) (h.hs x (pR hx).1)
theorem Eu {l:List Int} {a:Int} (h:l.Pairwise (· < ·)) (ha: ∀b∈l,b<a):(l++[a]).Pairwise (· < ·):=by
 rw[dM];exact⟨h,sI,fun b hb c hc=>by simp at hc;subst hc;exact ha b hb⟩
theorem wS (h:mO e s.p) (hw:s.p.W=[]) (hcl:s.p.cl=false) (hg:s.p.G=[]) (hO:qY O s.p.d.c.L.length):
 ((jO mn O e s.p k v).2.1=0∧(jO mn O e s.p k v).1.T=s.p.T++[(jO mn O e s.p k v).2.2]∧(jO mn O e s.p k v).1.W=[]∧(jO mn O e s.p k v).1.G=[]∧(jO mn O e s.p k v).1.cl=false∧(jO mn O e s.p k v).1.last=s.p.last)∨
 ((jO mn O e s.p k v).2.1=2∧(jO mn O e s.p k v).1=s.p∧(jO mn O e s.p k v).2.2=(0,0))∨
 ((jO mn O e s.p k v).2.1=8∧(jO mn O e s.p k v).2.2=(0,0)∧(jO mn O e s.p k v).1.W=[s.p.last+1]∧(jO mn O e s.p k v).1.T=s.p.T∧(jO mn O e s.p k v).1.G=[]∧(jO mn O e s.p k v).1.cl=false∧(jO mn O e s.p k v).1.last=s.p.last+1):=by
 unfold jO;rw[if_neg (by rw[hcl];simp)];split
 ·exact .inr (.inl ⟨rfl,rfl,rfl⟩)
 rw[if_neg (by rw[hw];simp)];split
 ·exact .inl ⟨rfl,rfl,hw,hg,hcl,rfl⟩
 split
 ·refine .inr (.inr ?_)
  unfold lW;rw[if_neg (by show¬8≤s.p.W.length;rw[hw];simp)];refine⟨rfl,rfl,?_,rfl,hg,hcl,rfl⟩;show s.p.W++[s.p.last+1]=_;rw[hw];rfl
 ·exact .inl ⟨rfl,rfl,hw,hg,hcl,rfl⟩
theorem Gw (hcl:s.p.cl=false) {q:Po} {o:Ob} {t:Int} (hq:q.W=[t]) (hc:q.cl=false):sU e (q,8,o)=⟨q.d,q.most,q.R,q.T,[],q.G,q.last,q.cl⟩:=by
 unfold sU;simp only[if_true];rw[hq];simp only[List.getLast?_singleton];unfold o8;rw[if_neg (by rw[hc];simp),if_pos (by rw[hq];simp),hq];simp
theorem qQ (h0:(jO mn O e s.p k v).2.1=0):uq mn O e sz s k v=(⟨(jO mn O e s.p k v).1,s.L++[yG sz s (jO mn O e s.p k v).2.2],s.last+1⟩,0,s.last+1):=by unfold uq;rw[if_pos h0]
theorem sH (h0:(jO mn O e s.p k v).2.1≠0):uq mn O e sz s k v=(s.atP (sU e (jO mn O e s.p k v)),(jO mn O e s.p k v).2.1,0):=by unfold uq;rw[if_neg h0]
theorem xS.take (hO:qY O s.p.d.c.L.length) (h:xS e sz s) (k v:Int):xS e sz (uq mn O e sz s k v).1∧(uq mn O e sz s k v).1.p.last≤s.p.last+1:=by
 have hI:=h.p.take (mn:=mn) hO k v;rcases wS (mn:=mn) (k:=k) (v:=v) h.p h.w h.cl h.g hO with⟨c0,cT,cW,cG,cc,cl⟩|⟨c2,cp,co⟩|⟨c8,co,cW,cT,cG,cc,cl⟩
 ·rw[qQ c0]
  refine⟨⟨hI,cW,cG,cc,?_,fun x q=> ?_,fun x q=> ?_,fun x q=> ?_,fun x q=> ?_,?_,by have:=h.l0;simp only;omega⟩,by simp only;omega⟩
  ·show((s.L++[yG sz s _]).map (·.id)).Pairwise _
   rw[dI];exact Eu h.asc fun b hb=>by
    obtain⟨x,hx,rfl⟩:=bJ.1 hb;have:=(h.rng x hx).2;show x.id<s.last+1;omega
  ·rcases aD.1 q with r|r
   ·have:=h.rng x r;simp only;omega
   ·simp at r;subst r;have:=h.l0;exact⟨by show 1≤s.last+1;omega,cO _⟩
  ·rcases aD.1 q with r|r
   ·exact h.len x r
   ·simp at r;subst r;simp[yG]
  ·rcases aD.1 q with r|r
   ·exact h.hs x r
   ·simp at r;subst r;exact⟨aH _,by show 1≤16;omega⟩
  ·simp only
   rw[cT];rcases aD.1 q with r|r
   ·exact av _ (h.t x r)
   ·simp at r;subst r;exact aj _ (by simp[yG])
  ·show((s.L++[yG sz s _]).map (·.o)).Nodup
   rw[dI,bD];refine⟨h.nd,sI,fun a ha b hb q=> ?_⟩;simp[yG] at hb;subst hb;obtain⟨x,hx,hxo⟩:=bJ.1 ha;have nd:=hI.nd;unfold Po.obs at nd;rw[cT] at nd;have n1:=(bD.1 (bD.1 nd).2.1).1;have:=(bD.1 n1).2.2 a (hxo▸h.t x hx) _ (bN.2 rfl);exact this q
 ·rw[sH (by rw[c2];simp)]
  have e1:sU e (jO mn O e s.p k v)=s.p:=by unfold sU;rw[if_neg (by rw[c2];simp),cp]
  rw[e1];exact⟨h,by show s.p.last≤_;omega⟩
 ·rw[sH (by rw[c8];simp)]
  obtain⟨q,c,o,hq⟩: ∃q c o,jO mn O e s.p k v=(q,c,o):=⟨_,_,_,rfl⟩;rw[hq] at c8 cW cT cG cc cl hI ⊢;simp only at c8 cW cT cG cc cl hI;subst c8;rw[Gw (s:=s) h.cl cW cc];have hI2:=hI.cancel (s.p.last+1);unfold o8 at hI2;rw[if_neg (by rw[cc];simp),if_pos (by rw[cW];simp),cW] at hI2;simp only[List.erase_cons_head] at hI2;exact⟨⟨hI2,rfl,cG,cc,h.asc,h.rng,h.len,h.hs,fun x r=>by show x.o∈q.T;rw[cT];exact h.t x r,h.nd,h.l0⟩,by show q.last≤_;omega⟩
theorem xS.own (hO:qY O s.p.d.c.L.length) (h:xS e sz s) (k v id:Int):xS e sz (Sg mn O e sz s k v id).1:=by
 unfold Sg;split
 ·exact h
 rename_i x hx;split
 ·exact h
 rename_i h1;obtain⟨m1,m2⟩:=pR hx;have hh:=h.hs x m1;obtain⟨ht,_⟩:=h.take (mn:=mn) hO k v;split
 ·rename_i h0
  by_cases h0':(jO mn O e s.p k v).2.1=0
  ·have e1:=qQ (sz:=sz) h0'
   have hn:yG sz s (jO mn O e s.p k v).2.2∈(uq mn O e sz s k v).1.L:=by rw[e1];exact aj _ sI
   have hf:=zy ht.ndI hn;have hp:=ht.put (y:=(yG sz s (jO mn O e s.p k v).2.2).wr x.b) hf rfl rfl (h.len x m1) ⟨aH _,by show 1≤16;omega⟩;have hne:x.id≠(yG sz s (jO mn O e s.p k v).2.2).id:=by
    have:=(h.rng x m1).2;show x.id≠s.last+1;omega
   have hxm:x∈((uq mn O e sz s k v).1.put ((yG sz s (jO mn O e s.p k v).2.2).wr x.b)).L:=by
    show x∈EG _ _;unfold EG;refine bJ.2 ⟨x,by rw[e1];exact av _ m1,?_⟩;exact if_neg hne
   exact hp.put (zy hp.ndI hxm) rfl rfl (h.len x m1) ⟨by show 1≤x.h-1;omega,by show x.h-1≤16;omega⟩
  ·rw[sH h0'] at h0
   exact absurd h0 h0'
 ·exact ht
end
structure Ov {σ:Type} {w0:World} (P:FEnv σ w0) (τ:Type) where
 M:Type
 pi:τ→σ
 set:τ→σ→τ
 ws:M→List Nat
 B:M→τ→World→Prop
 keep: ∀{m t w w' S},B m t w→Keep S w w'→(∀s∈S,s∉ws m)→B m t w'
 at_: ∀{m t w} (d:σ),B m t w→B m (set t d) w
 pis: ∀t d,pi (set t d)=d
section
variable {σ τ:Type} {w0:World} {P:FEnv σ w0} {V:Ov P τ} {X X0 F G Y L:List Nat} {m m':V.M} {t t':τ} {d:σ} {w w' W W':World} {b:Nat} {r:Value} {en:Ending}
structure Ov.T (V:Ov P τ) (X F:List Nat) (m:V.M) (t:τ) (w:World):Prop where
 s:P.S X (V.ws m++F) (V.pi t) w
 b:V.B m t w
 f: ∀f∈F,f∉V.ws m
theorem Ov.T.inX (h:V.T X F m t w): ∀y∈V.ws m,y∈X:=fun y hy=>P.qR h.s y (av _ hy)
theorem Ov.T.lim (h:V.T X F m t w): ∀y∈V.ws m,w0.heap.size≤y∧y<w.heap.size:=fun y hy=>P.lim h.s y (h.inX y hy)
theorem Ov.T.go (h:V.T X F m t w) (k:Below w.heap.size w w'):V.T X F m t w':=⟨P.go h.s k,V.keep h.b (Keep.of (S:=[]) k) (fun _ q=>by cases q),h.f⟩
theorem Ov.T.other (h:V.T X F m t w) (k:Keep G w w') (hs: ∀g∈G,g∈F):V.T X F m t w':=
 ⟨P.other h.s k fun g q=>aj _ (hs g q),V.keep h.b k fun s q=>h.f s (hs s q),h.f⟩
theorem Ov.T.uI (h:V.T X F m t w) (hs: ∀g∈G,g∈F):V.T X G m t w:=
 ⟨P.uI h.s fun g q=>(aD.1 q).elim (fun u=>av _ u) (fun u=>aj _ (hs g u)),h.b,fun f q=>h.f f (hs f q)⟩
theorem Ov.T.tQ (h:V.T X F m t w) (k:Keep G w w') (hs: ∀g∈G,g∈F) (hY: ∀y∈Y,w.heap.size≤y∧y<w'.heap.size):V.T (Y++X) (Y++F) m t w':=by
 refine⟨P.uI (P.tQ (Y:=Y) h.s k (fun g q=>aj _ (hs g q)) hY) fun g q=> ?_,V.keep h.b k fun s q=>h.f s (hs s q),fun f q r=> ?_⟩
 ·rcases aD.1 q with u|u
  ·exact aj _ (av _ u)
  ·rcases aD.1 u with u|u
   ·exact av _ u
   ·exact aj _ (aj _ u)
 ·rcases aD.1 q with u|u
  ·have:=(hY f u).1;have:=(h.lim f r).2;omega
  ·exact h.f f u r
def Ov.env (V:Ov P τ):FEnv τ w0 where
 S X F t w:=∃m,V.T X F m t w
 bel:=fun⟨_,q⟩=>P.bel q.s
 lim:=fun⟨_,q⟩=>P.lim q.s
 qR:=fun⟨_,q⟩ f hf=>P.qR q.s f (aj _ hf)
 go:=fun⟨_,q⟩ k=>⟨_,q.go k⟩
 other:=fun⟨_,q⟩ k hs=>⟨_,q.other k hs⟩
 tQ:=fun⟨_,q⟩ k hs hy=>⟨_,q.tQ k hs hy⟩
 uI:=fun⟨_,q⟩ hg=>⟨_,q.uI hg⟩
def FEnv.with {σ:Type} {w0:World} (E:FEnv σ w0) (I:σ→Prop):FEnv σ w0 where
 S X F t w:=E.S X F t w∧I t
 bel h:=E.bel h.1
 lim h:=E.lim h.1
 qR h:=E.qR h.1
 go h k:=⟨E.go h.1 k,h.2⟩
 other h k hs:=⟨E.other h.1 k hs,h.2⟩
 tQ h k hs hy:=⟨E.tQ h.1 k hs hy,h.2⟩
 uI h hg:=⟨E.uI h.1 hg,h.2⟩
theorem FEnv.Bd {σ:Type} {w0:World} {E:FEnv σ w0} {I:σ→Prop} {t:σ} (h:EPost E.S X F t w r en w') (hi:I t):EPost (E.with I).S X F t w r en w':=by
 obtain⟨h1,X',h2,h3⟩:=h;exact⟨h1,X',⟨h2,hi⟩,h3⟩
theorem Ov.T.dep (h:V.T X F m t w) (hp:EPost P.S X (V.ws m++F) d w r en w'):en= .returned r∧∃X',V.T X' F m (V.set t d) w'∧Keep (off X (V.ws m++F)) w w'∧(∀x∈X',x∈X∨w.heap.size≤x)∧∀x∈X,x∈X':=by
 obtain⟨h1,X',h2,h3,h4,h5⟩:=hp;exact⟨h1,X',⟨by rw[V.pis];exact h2,V.keep (V.at_ d h.b) h3 fun s q u=>(jJ.1 q).2 (av _ u),h.f⟩,h3,h4,h5⟩
structure Ov.Run (V:Ov P τ) (X0 F:List Nat) (w:World) (L X:List Nat) (m:V.M) (t:τ) (W:World):Prop where
 run:oQ V.env X0 F w L X t W
 at_:V.T X (L++F) m t W
 ff: ∀f∈F,f<w.heap.size
theorem Ov.Run.start (h:V.T X F m t w):V.Run X F w [] X m t w:=⟨oQ.start (E:=V.env) ⟨_,h⟩,h,fun f q=>(P.lim h.s f (P.qR h.s f (aj _ q))).2⟩
theorem Ov.Run.go (h:V.Run X0 F w L X m t W) (k:Below W.heap.size W W'):V.Run X0 F w L X m t W':=⟨h.run.go k,h.at_.go k,h.ff⟩
theorem Ov.Run.box (h:V.Run X0 F w L X m t W) (o:Obj):V.Run X0 F w (W.heap.size::L) (W.heap.size::X) m t (W.alloc o):=
 ⟨h.run.box o,h.at_.tQ (Y:=[W.heap.size]) (G:=[]) (Keep.of ((aO _ _).alloc (aH _) o)) (fun g q=>by cases q) (fun y hy=>by simp at hy;subst hy;simp),h.ff⟩
theorem Ov.Run.wr (h:V.Run X0 F w L X m t W) (hb:b∈L) (k:Keep [b] W W'):V.Run X0 F w L X m t W':=
 ⟨h.run.wr hb k,h.at_.other k (fun g q=>by simp at q;subst q;exact av _ hb),h.ff⟩
theorem Ov.Run.nL (h:V.Run X0 F w L X m t W) (hb:b∈L):b∉V.ws m:=h.at_.f b (av _ hb)
theorem Ov.Run.lt (h:V.Run X0 F w L X m t W) (hb:b∈V.ws m):b<W.heap.size:=(h.at_.lim b hb).2
theorem Ov.Run.dep (h:V.Run X0 F w L X m t W) (hp:EPost P.S X (V.ws m++(L++F)) d W r en W'):en= .returned r∧∃X',V.Run X0 F w L X' m (V.set t d) W'∧Keep (off X (V.ws m++(L++F))) W W':=by
 obtain⟨h1,X',h2,h3,h4,h5⟩:=h.at_.dep hp;have z:=h.run.k.size;refine⟨h1,X',⟨⟨⟨_,h2⟩,h.run.k.trans h3 fun s q=> ?_,fun x q=> ?_,fun x q=>h5 x (h.run.x2 x q),fun b q=>⟨(h.run.l b q).1,aC (h.run.l b q).2 h3.size⟩⟩,h2,h.ff⟩,h3⟩
 ·obtain⟨q1,q2⟩:=jJ.1 q
  exact(h.run.x1 s q1).imp (fun u=>jJ.2 ⟨u,fun v=>q2 (aj _ (aj _ v))⟩) id
 ·rcases h4 x q with u|u
  ·exact h.run.x1 x u
  ·exact .inr om
theorem Ov.Run.put {L':List Nat} (h:V.Run X0 F w L X m t W) (k:Keep (V.ws m++L) W W') (hw: ∀y∈V.ws m',y∈V.ws m∨y∈L∨W.heap.size≤y) (hl: ∀y∈V.ws m',y<W'.heap.size) (hL: ∀y∈L',y∈L∧y∉V.ws m') (hb:V.B m' t' W') (hd:V.pi t'=V.pi t):
 ∃X',V.Run X0 F w L' X' m' t' W':=by
 have hY: ∀y∈(V.ws m').filter (fun y=>decide (W.heap.size≤y)),W.heap.size≤y∧y<W'.heap.size:=fun y q=>by
  obtain⟨q1,q2⟩:=bF.1 q;exact⟨of_decide_eq_true q2,hl y q1⟩
 have z:=h.run.k.size;have sub: ∀g∈V.ws m++L,g∈V.ws m++(L++F):=fun g q=>(aD.1 q).elim (fun u=>av _ u) (fun u=>aj _ (av _ u))
 have t1:=P.tQ (Y:=(V.ws m').filter (fun y=>decide (W.heap.size≤y))) h.at_.s k sub hY;have nF: ∀f∈F,f∉V.ws m':=fun f q r=>by
  have hf:=h.ff f q;rcases hw f r with u|u|u
  ·exact h.at_.f f (aj _ q) u
  ·have:=(h.run.l f u).1;omega
  ·omega
 have a':V.T ((V.ws m').filter (fun y=>decide (W.heap.size≤y))++X) (L'++F) m' t' W':=by
  refine⟨?_,hb,fun f q=> ?_⟩
  ·rw[hd]
   refine P.uI t1 fun g q=> ?_
   rcases aD.1 q with u|u
   ·rcases hw g u with v|v|v
    ·exact aj _ (av _ v)
    ·exact aj _ (aj _ (av _ v))
    ·exact av _ (bF.2 ⟨u,decide_eq_true v⟩)
   ·rcases aD.1 u with v|v
    ·exact aj _ (aj _ (av _ (hL g v).1))
    ·exact aj _ (aj _ (aj _ v))
  ·rcases aD.1 q with u|u
   ·exact(hL f u).2
   ·exact nF f u
 refine⟨_,⟨⟨_,a'⟩,h.run.k.trans k fun s q=> ?_,fun x q=> ?_,fun x q=>aj _ (h.run.x2 x q),fun b q=>⟨(h.run.l b (hL b q).1).1,aC (h.run.l b (hL b q).1).2 k.size⟩⟩,a',h.ff⟩
 ·rcases aD.1 q with u|u
  ·exact(h.run.x1 s (h.at_.inX s u)).imp (fun v=>jJ.2 ⟨v,fun y=>h.at_.f s (aj _ y) u⟩) id
  ·exact .inr (h.run.l s u).1
 ·rcases aD.1 q with u|u
  ·have:=(hY x u).1;exact .inr om
  ·exact h.run.x1 x u
theorem Ov.Run.fin (h:V.Run X0 F w L X m t W):EPost V.env.S X0 F t w r (.returned r) W:=h.run.fin
end
def lq (b:List UInt8):List Value:=b.map fun x=>.int .u8 (x.toNat:Int)
def bkC (g sz:Nat) (x:Bk):List Value:=[.int .i64 x.o.1,.int .i64 x.o.2,.slice (some ⟨g,0,none⟩) sz sz,.int .i64 x.h]
abbrev BkL:=List (Bk×Nat×Nat)
def EI (C:BkL):List (Lit×Value):=C.map fun c=>(.int .i64 c.1.id,.pointer (some ⟨c.2.1,0,none⟩))
def cws (C:BkL):List Nat:=C.flatMap fun c=>[c.2.1,c.2.2]
def sws (ps bl:Nat) (C:BkL):List Nat:=ps::bl::cws C
def storeCells' (pp sz bl:Nat) (last:Int):List Value:=[.pointer (some ⟨pp,0,none⟩),.int .i64 sz,.map (some bl),.int .i64 last]
structure StB (w:World) (ps pp bl sz:Nat) (C:BkL) (L:List Bk) (last:Int):Prop where
 c:jD w ps (storeCells' pp sz bl last)
 m:pW Tryz.prog 3 w bl (EI C)
 l:C.map (·.1)=L
 b: ∀c∈C,jD w c.2.1 (bkC c.2.2 sz c.1)∧jD w c.2.2 (lq c.1.b)
 nd:(sws ps bl C).Nodup
section
variable {w w':World} {S:List Nat} {ps pp bl sz:Nat} {C:BkL} {L:List Bk} {last last':Int} {c:Bk×Nat×Nat} {x y:Bk} {id:Int}
theorem sZ {b:Nat}:b∈cws C↔∃c∈C,b=c.2.1∨b=c.2.2:=by unfold cws;simp
theorem oG {b:Nat}:b∈sws ps bl C↔b=ps∨b=bl∨b∈cws C:=by unfold sws;simp
theorem StB.keep (h:StB w ps pp bl sz C L last) (k:Keep S w w') (hs: ∀s∈S,s∉sws ps bl C):StB w' ps pp bl sz C L last:=
 ⟨h.c.keep k fun q=>hs _ q (oG.2 (.inl rfl)),h.m.keep k fun q=>hs _ q (oG.2 (.inr (.inl rfl))),h.l,fun c hc=>
   ⟨(h.b c hc).1.keep k fun q=>hs _ q (oG.2 (.inr (.inr (sZ.2 ⟨c,hc,.inl rfl⟩)))),(h.b c hc).2.keep k fun q=>hs _ q (oG.2 (.inr (.inr (sZ.2 ⟨c,hc,.inr rfl⟩))))⟩,h.nd⟩
theorem Qg {α:Type} {f:α→List Nat}: ∀{C:List α} {a b:α} {y:Nat},(C.flatMap f).Nodup→a∈C→b∈C→y∈f a→y∈f b→a=b
 |[],a,b,y,_,ha,_,_,_=>by cases ha
 |c::C,a,b,y,hn,ha,hb,h1,h2=>by
  rw[dU,bD] at hn;rcases aB.1 ha with rfl|ha'
  ·rcases aB.1 hb with rfl|hb'
   ·rfl
   ·exact absurd rfl (hn.2.2 y h1 y (dY.2 ⟨b,hb',h2⟩))
  ·rcases aB.1 hb with rfl|hb'
   ·exact absurd rfl (hn.2.2 y h2 y (dY.2 ⟨a,ha',h1⟩))
   ·exact Qg hn.2.1 ha' hb' h1 h2
theorem StB.ndC (h:StB w ps pp bl sz C L last):(cws C).Nodup:=(aS.1 (aS.1 h.nd).2).2
theorem StB.ne (h:StB w ps pp bl sz C L last):ps≠bl∧(∀b∈cws C,b≠ps∧b≠bl):=by
 obtain⟨n1,n2⟩:=aS.1 h.nd;obtain⟨n3,_⟩:=aS.1 n2;simp only[aB,not_or] at n1;exact⟨n1.1,fun b hb=>⟨fun q=>n1.2 (q▸hb),fun q=>n3 (q▸hb)⟩⟩
theorem StB.two (h:StB w ps pp bl sz C L last) (hc:c∈C):c.2.1≠c.2.2:=by
 have: ∀{C:BkL},(cws C).Nodup→c∈C→c.2.1≠c.2.2:=fun {C} hn=>by
  induction C with
  |nil=>intro q;cases q
  |cons a C ih=>
   unfold cws at hn ih;rw[dU,bD] at hn;intro q;rcases aB.1 q with rfl|q'
   ·have:=hn.1;simp at this;exact this
   ·exact ih hn.2.1 q'
 exact this h.ndC hc
theorem StB.apart (h:StB w ps pp bl sz C L last) {a:Bk×Nat×Nat} (ha:a∈C) (hc:c∈C) (hne:a.1.id≠c.1.id):a.2.1≠c.2.1∧a.2.1≠c.2.2∧a.2.2≠c.2.1∧a.2.2≠c.2.2:=by
 have k: ∀y,(y=a.2.1∨y=a.2.2)→(y=c.2.1∨y=c.2.2)→False:=fun y q r=>hne (by rw[Qg (f:=fun c:Bk×Nat×Nat=>[c.2.1,c.2.2]) h.ndC ha hc (y:=y) (by simpa using q) (by simpa using r)])
 exact⟨fun q=>k _ (.inl rfl) (.inl q),fun q=>k _ (.inl rfl) (.inr q),fun q=>k _ (.inr rfl) (.inl q),fun q=>k _ (.inr rfl) (.inr q)⟩
theorem look_C:oq (EI C) (.int .i64 id)=(C.find? fun c=>c.1.id==id).map fun c=>.pointer (some ⟨c.2.1,0,none⟩):=by
 induction C with
 |nil=>rfl
 |cons c C ih=>
  have e:EI (c::C)=(.int .i64 c.1.id,.pointer (some ⟨c.2.1,0,none⟩))::EI C:=rfl;rw[e,mF,gu];by_cases h:c.1.id=id
  ·subst h;simp
  ·have h':(c.1.id==id)=false:=by simpa using h
   rw[h',if_neg (fun q=>h (by injection q))];exact ih
theorem StB.find (h:StB w ps pp bl sz C L last) (id:Int):pG L id=(C.find? fun c=>c.1.id==id).map (·.1):=by
 unfold pG;rw[←h.l,List.find?_map];rfl
theorem StB.has (h:StB w ps pp bl sz C L last) (hx:pG L id=some x): ∃c∈C,c.1=x∧x.id=id∧C.find? (fun c=>c.1.id==id)=some c:=by
 rw[h.find] at hx;obtain⟨c,h1,h2⟩:=dx.1 hx;have h3:=gY h1;exact⟨c,dH h1,h2,by rw[←h2];simpa using h3,h1⟩
def Bt (C:BkL) (y:Bk):BkL:=C.map fun a=>if a.1.id=y.id then(y,a.2) else a
theorem putC_fst:(Bt C y).map (·.1)=EG (C.map (·.1)) y:=by
 unfold Bt EG;rw[iE,iE];refine fO fun a _=> ?_
 simp only[Function.comp];split<;>rfl
theorem Ev:cws (Bt C y)=cws C:=by
 unfold Bt cws;induction C with
 |nil=>rfl
 |cons a C ih=>
  simp only[bP,dU];rw[ih];split<;>rfl
theorem putC_map (h: ∀a∈C,a.1.id=y.id→a.1.id=y.id):EI (Bt C y)=EI C:=by
 unfold Bt EI;rw[iE];refine fO fun a _=> ?_
 simp only[Function.comp];split
 ·rename_i q;simp only;rw[q]
 ·rfl
theorem StB.put (h:StB w ps pp bl sz C L last) (hn:(L.map (·.id)).Nodup) (hc:c∈C) (hi:y.id=c.1.id) (k:Keep S w w') (hs: ∀s∈S,s=c.2.1∨s=c.2.2) (h1:jD w' c.2.1 (bkC c.2.2 sz y)) (h2:jD w' c.2.2 (lq y.b)):
 StB w' ps pp bl sz (Bt C y) (EG L y) last:=by
 have off: ∀b,b∉cws C→b∉S:=fun b hb q=>hb (sZ.2 ⟨c,hc,hs b q⟩)
 refine⟨h.c.keep k (off _ fun q=>(h.ne.2 _ q).1 rfl),?_,by rw[putC_fst,h.l],fun a ha=> ?_,by unfold sws;rw[Ev];exact h.nd⟩
 ·rw[putC_map fun _ _ q=>q];exact h.m.keep k (off _ fun q=>(h.ne.2 _ q).2 rfl)
 ·unfold Bt at ha
  obtain⟨a',ha',rfl⟩:=bJ.1 ha;by_cases e:a'.1.id=y.id
  ·rw[if_pos e]
   have ea:a'=c:=by
    have key: ∀{C:BkL},(C.map fun c=>c.1.id).Nodup→a'∈C→c∈C→a'.1.id=c.1.id→a'=c:=fun {C} hn=>by
     induction C with
     |nil=>intro q;cases q
     |cons z C ih=>
      rw[bP,aS] at hn;intro p q r;rcases aB.1 p with rfl|p'
      ·rcases aB.1 q with rfl|q'
       ·rfl
       ·exact absurd (bJ.2 ⟨c,q',r.symm⟩) hn.1
      ·rcases aB.1 q with rfl|q'
       ·exact absurd (bJ.2 ⟨a',p',r⟩) hn.1
       ·exact ih hn.2 p' q' r
    refine key ?_ ha' hc (e.trans hi);rw[←h.l,iE] at hn;exact hn
   rw[ea];exact⟨h1,h2⟩
  ·rw[if_neg e]
   obtain⟨n1,n2,n3,n4⟩:=h.apart ha' hc (fun q=>e (q.trans hi.symm));exact⟨(h.b a' ha').1.keep k fun q=>(hs _ q).elim n1 n2,(h.b a' ha').2.keep k fun q=>(hs _ q).elim n3 n4⟩
end
def zF {w0:World} (P:FEnv Po w0) (ps pp sz:Nat):Ov P St where
 M:=Nat×BkL
 pi s:=s.p
 set s d:=s.atP d;ws m:=sws ps m.1 m.2
 B m s w:=StB w ps pp m.1 sz m.2 s.L s.last
 keep h k hs:=h.keep k hs
 at_ d h:=h
 pis t d:=rfl
def xU {w0:World} (P:FEnv Po w0) (ps pp e sz:Nat):FEnv St w0:=(zF P ps pp sz).env.with (xS e sz)
theorem YH (w:World):(zeroValue 155).run Tryz.prog w= .ok (.pointer none) w:=kR
section
variable {w w':World} {ps pp bl sz:Nat} {C:BkL} {L:List Bk} {last:Int} {c:Bk×Nat×Nat} {id:Int} {B:Nat} {ev:Nat→Addr}
theorem StB.look (h:StB w ps pp bl sz C L last) (hid:kL id) (b:Option (Bk×Nat×Nat)) (hb:C.find? (fun c=>c.1.id==id)=b):
 (Instr.lookup 158 (.map (some bl)) (.int .i64 id) true).run Tryz.prog w= .ok (.tuple #[((b.map fun c=>Value.pointer (some ⟨c.2.1,0,none⟩)).getD (.pointer none)),.bool b.isSome]) w:=by
 rw[h.m.look uO iZ (YH w) (keyOf_int_mk bE (wf64 hid)),look_C,hb];cases b<;>rfl
theorem wT (h:StB w ps pp bl sz C L last) (hid:kL id) (hc:C.find? (fun c=>c.1.id==id)=some c):
 Calls Tryz.prog 77 #[.pointer (some ⟨ps,0,none⟩),.int .i64 id] w fun r w'=>r= .returned (.tuple #[.pointer (some ⟨c.2.1,0,none⟩),.nilIface])∧w'=w:=by
 have c2:=h.c.gC 2;have cl:=h.c.lt;have lk:=h.look hid _ hc;simp only[jC,gQ,iT] at lk;clear h hid hc;go_enter Tryz.func77,Tryz.ntmps77;go_wp2;go_ret2
 exact⟨rfl,rfl⟩
theorem Qh (hE:pY B ev w) (h:StB w ps pp bl sz C L last) (hid:kL id) (hc:C.find? (fun c=>c.1.id==id)=none):
 Calls Tryz.prog 77 #[.pointer (some ⟨ps,0,none⟩),.int .i64 id] w fun r w'=>r= .returned (.tuple #[.pointer none,.iface 336 (.pointer (some (ev 4)))])∧Below w.heap.size w w':=by
 have c2:=h.c.gC 2;have cl:=h.c.lt;have lk:=h.look hid _ hc;simp only[Option.map_none,Option.getD_none,iR] at lk;have gs:w.cell? ⟨2,0,none⟩=some (.iface 336 (.pointer (some (ev 4)))):=(hE.at 4 (by decide) (by decide)).1;have gl:2<w.heap.size:=(hE.at 4 (by decide) (by decide)).2;clear h hid hc hE;go_enter Tryz.func77,Tryz.ntmps77;go_wp2_with fail;go_quiet (fail);go_wp2;go_ret2
 exact⟨rfl,jK⟩
end
section
variable {pd pc pz e:Nat} {mn:Int} {O:List (List Int)} {ev:Nat→Addr} {w0:World} {E:tu pd pc pz e mn O ev w0} {X F S:List Nat} {w w':World} {ps pp sz:Nat} {s:St} {id:Int} {bl:Nat} {C:BkL} {c:Bk×Nat×Nat} {x y:Bk} {r:Value} {en:Ending}
theorem vK (h:(zF (jZ E pp) ps pp sz).T X F (bl,C) s w) (hx:pG s.L id=some x): ∃c∈C,c.1=x∧C.find? (fun c=>c.1.id==id)=some c:=by
 obtain⟨c,h1,h2,_,h3⟩:=StB.has h.b hx;exact⟨c,h1,h2,h3⟩
theorem Ew (h:(zF (jZ E pp) ps pp sz).T X F (bl,C) s w) (hx:pG s.L id=none):C.find? (fun c=>c.1.id==id)=none:=by
 have:=StB.find h.b id;rw[hx] at this;exact(iy.1 this.symm)
theorem xO (h:(xU (jZ E pp) ps pp e sz).S X F s w):pY w0.heap.size ev w:=E.err.go ((xU (jZ E pp) ps pp e sz).bel h)
theorem Bf (h:(xU (jZ E pp) ps pp e sz).S X F s w): ∀W,Below w.heap.size w W→EPost (xU (jZ E pp) ps pp e sz).S X F s w r (.returned r) W:=fun W b=>⟨rfl,X,(xU (jZ E pp) ps pp e sz).go h b,Keep.of b,fun _ q=>.inl q,fun _ q=>q⟩
theorem st_put (h:(zF (jZ E pp) ps pp sz).T X F (bl,C) s w) (hi:xS e sz s) (hc:c∈C) (hy:y.id=c.1.id) (k:Keep S w w') (hs: ∀q∈S,q=c.2.1∨q=c.2.2) (h1:jD w' c.2.1 (bkC c.2.2 sz y)) (h2:jD w' c.2.2 (lq y.b)) (hI:xS e sz (s.put y)):
 EPost (xU (jZ E pp) ps pp e sz).S X F (s.put y) w r (.returned r) w':=by
 have hb:StB w' ps pp bl sz (Bt C y) (EG s.L y) s.last:=StB.put h.b hi.ndI hc hy k hs h1 h2;have e1:sws ps bl (Bt C y)=sws ps bl C:=by unfold sws;rw[Ev]
 have hw: ∀q,q∈(zF (jZ E pp) ps pp sz).ws (bl,Bt C y)→q∈(zF (jZ E pp) ps pp sz).ws (bl,C):=fun q t=>by
  have t':q∈sws ps bl (Bt C y):=t;rw[e1] at t';exact t'
 have hk:Keep ((zF (jZ E pp) ps pp sz).ws (bl,C)++[]) w w':=k.mono fun q t=>by
  rw[dB];exact oG.2 (.inr (.inr (sZ.2 ⟨c,hc,hs q t⟩)))
 have hb':(zF (jZ E pp) ps pp sz).B (bl,Bt C y) (s.put y) w':=hb;obtain⟨X',R⟩:=Ov.Run.put (V:=zF (jZ E pp) ps pp sz) (m:=(bl,C)) (m':=(bl,Bt C y)) (t':=s.put y) (L':=[]) (Ov.Run.start h) hk (fun q t=>.inl (hw q t)) (fun q t=>aC (h.lim q (hw q t)).2 k.size) (fun q t=>by cases t) hb' rfl;exact FEnv.Bd R.fin hI
theorem Gx (hid:kL id) (h:(xU (jZ E pp) ps pp e sz).S X F s w):
 Calls Tryz.prog 38 #[.pointer (some ⟨ps,0,none⟩),.int .i64 id] w fun r w'=>r= .returned (match pG s.L id with|some x=>.tuple #[.int .i64 x.h,.nilIface]|none=>.tuple #[.int .i64 0,jW ev 4])∧Below w.heap.size w w':=by
 have hE:=xO h;obtain⟨⟨⟨bl,C⟩,q⟩,hi⟩:=h;cases hx:pG s.L id with
 |none=>
  have A:=ah (Qh hE q.b hid (Ew q hx));simp only[show jW ev 4= .iface 336 (.pointer (some (ev 4))) from rfl];clear q hi hE hx;go_enter Tryz.func38,Tryz.ntmps38;go_wp2_with fail;refine A.out.mono ?_;rintro r w1 ⟨rfl,hb1⟩;go_wp2;go_ret2
  exact⟨rfl,hb1⟩
 |some x=>
  obtain⟨c,hc,rfl,hf⟩:=vK q hx;have A:=ah (wT q.b hid hf);obtain⟨b1,b2⟩:=q.b.b c hc;have x3:=b1.gC 3;have xl:=b1.lt;obtain⟨hh,hhe⟩:=eY c.1.h;obtain⟨pb,hpb⟩:=eY c.2.1;simp only;rw[←hhe] at x3 ⊢;rw[←hpb] at x3 xl A;clear q hi hE hx hc hf b1 b2 hhe hpb;go_enter Tryz.func38,Tryz.ntmps38;go_wp2_with fail;refine A.out.mono ?_;rintro r w1 ⟨rfl,rfl⟩;go_wp2;go_ret2
  exact⟨rfl,aO _ _⟩
theorem YI (h:(xU (jZ E pp) ps pp e sz).S X F s w):
 Calls Tryz.prog 37 #[.pointer (some ⟨ps,0,none⟩)] w fun r w'=>r= .returned (.int .i64 s.L.length)∧w'=w:=by
 obtain⟨⟨⟨bl,C⟩,q⟩,hi⟩:=h;have c2:=q.b.c.gC 2;have cl:=q.b.c.lt;have lg:=fun ty=>q.b.m.len iZ ty
 have el:(EI C).length=s.L.length:=by rw[←q.b.l];simp[EI]
 rw[el] at lg;obtain⟨n,hn⟩:=eY s.L.length;rw[←hn] at lg ⊢;clear q hi el hn;go_enter Tryz.func37,Tryz.ntmps37;go_wp2;go_ret;exact⟨rfl,rfl⟩
theorem YJ (hid:kL id) (h:(xU (jZ E pp) ps pp e sz).S X F s w):
 Calls Tryz.prog 31 #[.pointer (some ⟨ps,0,none⟩),.int .i64 id] w (EPost (xU (jZ E pp) ps pp e sz).S X F (Et s id).1 w (jW ev (Et s id).2)):=by
 have hE:=xO h;have SAME:=ah (fun r=>Bf (r:=r) h);have HI:=h.2.hold id;obtain⟨⟨⟨bl,C⟩,q⟩,hi⟩:=h;revert HI;unfold Et;cases hx:pG s.L id with
 |none=>
  intro _;have A:=ah (Qh hE q.b hid (Ew q hx));simp only[show jW ev 4= .iface 336 (.pointer (some (ev 4))) from rfl];clear q hi hE hx;go_enter Tryz.func31,Tryz.ntmps31;go_wp2_with fail;refine A.out.mono ?_;rintro r w1 ⟨rfl,hb1⟩;go_wp2;go_ret;exact SAME.out _ _ hb1
 |some x=>
  obtain⟨c,hc,rfl,hf⟩:=vK q hx;have A:=wT q.b hid hf;obtain⟨b1,b2⟩:=q.b.b c hc;have x3:=b1.gC 3;have xf:=b1.f 3 (by simp[bkC]);have xl:=b1.lt;simp only;by_cases h16:16≤c.1.h
  ·rw[if_pos h16]
   intro _;have d16:decide ((16:Int)≤(c.1.h:Int))=true:=decide_eq_true om;have gs:w.cell? ⟨7,0,none⟩=some (.iface 336 (.pointer (some (ev 10)))):=(hE.at 10 (by decide) (by decide)).1;have gl:7<w.heap.size:=(hE.at 10 (by decide) (by decide)).2;simp only[show jW ev 10= .iface 336 (.pointer (some (ev 10))) from rfl];obtain⟨hh,hhe⟩:=eY c.1.h;obtain⟨pb,hpb⟩:=eY c.2.1;rw[←hhe] at x3 d16 h16;rw[←hpb] at x3 xl A;have HA:=ah A;clear q hi hE hx hc hf b1 b2 hhe hpb xf A;go_enter Tryz.func31,Tryz.ntmps31;go_wp2_with fail;refine HA.out.mono ?_;rintro r w1 ⟨rfl,rfl⟩;go_wp2;go_ret;exact SAME.out _ _ (aO _ _)
  ·rw[if_neg h16]
   intro HI;have d16:decide ((16:Int)≤(c.1.h:Int))=false:=decide_eq_false om;have wl:IntKind.i64.wrap ((c.1.h:Int)+1)=(c.1.h:Int)+1:=bB _ om;have FIN:Hid (∀w',w'=w.setCell ⟨c.2.1,3,none⟩ (.int .i64 ((c.1.h:Int)+1))→EPost (xU (jZ E pp) ps pp e sz).S X F (s.put (c.1.hold (c.1.h+1))) w .nilIface (.returned .nilIface) w'):=fun w' hw'=>by
    subst hw';have k:Keep [c.2.1] w (w.setCell ⟨c.2.1,3,none⟩ (.int .i64 ((c.1.h:Int)+1))):=(Keep.refl _ _).setCell (p:=⟨c.2.1,3,none⟩) (.inl sI) _;exact st_put q hi hc rfl k (fun q t=>.inl (by simpa using t)) (b1.store 3 (.int .i64 ((c.1.h:Int)+1)) (by simp[bkC])) (b2.keep k (by simpa using(q.b.two hc).symm)) HI
   obtain⟨hh,hhe⟩:=eY c.1.h;obtain⟨pb,hpb⟩:=eY c.2.1;have HH:=ah hhe;simp only[show jW ev 0= .nilIface from rfl];rw[←hhe] at x3 d16 h16 wl;rw[←hpb] at x3 xl A xf;have HA:=ah A;have HPB:=ah hpb;clear q hi hE hx hc hf b1 b2 hhe hpb A HI;go_enter Tryz.func31,Tryz.ntmps31;go_wp2_with fail;refine HA.out.mono ?_;rintro r w1 ⟨rfl,hw1⟩;obtain rfl:=hw1.symm;go_wp2;go_ret;exact FIN.out _ (by rw[←HPB.out,←HH.out])
end
def delC (C:BkL) (id:Int):BkL:=C.filter fun a=>a.1.id !=id
section
variable {w w':World} {S:List Nat} {ps pp bl sz:Nat} {C:BkL} {L:List Bk} {last last':Int} {c:Bk×Nat×Nat} {x y:Bk} {id:Int}
theorem delC_map:BI (EI C) (.int .i64 id)=EI (delC C id):=by
 unfold BI EI delC;rw[jo];congr 1
 refine jc fun a _=> ?_
 simp only[Function.comp];by_cases q:a.1.id=id
 ·have r:Lit.int .i64 a.1.id=Lit.int .i64 id:=by rw[q]
  rw[decide_eq_true r];simp[q]
 ·have: ¬(Lit.int .i64 a.1.id=Lit.int .i64 id):=fun r=>q (by injection r)
  simp[q,this]
end
section
variable {pd pc pz e:Nat} {mn:Int} {O:List (List Int)} {ev:Nat→Addr} {w0:World} {E:tu pd pc pz e mn O ev w0} {X F S:List Nat} {w w':World} {ps pp sz:Nat} {s:St} {id a n:Int} {bl:Nat} {C:BkL} {c:Bk×Nat×Nat} {x y:Bk} {last:Int} {L:List Bk}
end
structure Bg (p e n nw:Nat) (d:De):Prop where
 inv:oH e d
 full:pV p e n d.c
 hands:d.H=List.replicate nw ([],[])
 pile:d.P=[]
section
variable {p e n nw sz:Nat} {d:De} {s:St} {q:Po} {o:Ob} {k id:Int} {x y:Bk} {L:List Bk}
theorem Bg.hand (h:Bg p e n nw d) (hk:0≤k∧k<nw):nY d k=some ([],[]):=by
 unfold nY;rw[if_neg om,h.hands,fq,if_pos om]
theorem Bg.take (hO:qY [[0]] 1) (h:Bg p e n nw d) (hn:n<p*jR e) (hk:0≤k∧k<nw) (u:Bool):
 (takeD 0 [[0]] e d k 0 u).2.1=0∧Bg p e (n+1) nw (takeD 0 [[0]] e d k 0 u).1:=by
 have e1:takeD 0 [[0]] e d k 0 u=takeD 0 [[0]] e d k 0 true:=by cases u;exact yg h.inv k 0;rfl
 rw[e1];obtain⟨t1,t2,t3,t4,t5,t6,t7⟩:=UF hO h.inv h.full hn (h.hand hk) h.pile;exact⟨t1,t7,t6,t4.trans h.hands,t5⟩
theorem Bg.fill1 (hO:qY [[0]] 1) (h:Bg p e 0 nw d) (hn:0<p*jR e) (hw:0<nw):
 (lJ 0 [[0]] e 0 1 d []).2.2=0∧Bg p e 1 nw (lJ 0 [[0]] e 0 1 d []).1∧(lJ 0 [[0]] e 0 1 d []).2.1.length=1:=by
 obtain⟨t1,t2⟩:=h.take (k:=0) hO hn ⟨om,om⟩ true;rw[vC t1];exact⟨rfl,t2,by simp[lJ]⟩
theorem ordZ_len {n:Nat} (h:qY [[0]] n):n=1:=by have:=h.1;simpa using this.symm
structure StJ (e sz:Nat) (s:St):Prop where
 inv:xS e sz s
 h:s.p.d.H.length=2
 m:s.p.most=1
 j:1≤s.p.R.length+s.p.T.length
 t:s.p.T.length=s.L.length
theorem StJ.right (h:StJ e sz s) (hO:qY [[0]] s.p.d.c.L.length) (hk:0≤k∧k<2):lU s.p k=true∧um s.p 0=true:=by
 have:=ordZ_len hO;unfold lU um;rw[h.h,this];exact⟨decide_eq_true om,by decide⟩
theorem StJ.take (hO:qY [[0]] s.p.d.c.L.length) (h:StJ e sz s) (hk:0≤k∧k<2):
 StJ e sz (uq 0 [[0]] e sz s k 0).1∧((jO 0 [[0]] e s.p k 0).2.1=0∨((jO 0 [[0]] e s.p k 0).2.1=8∧s.p.R=[])):=by
 have HI:=(h.inv.take (mn:=0) hO k 0).1;obtain⟨r1,r2⟩:=h.right hO hk;have hj:=h.j;have ht:=h.t;have hc: ¬s.p.cl=true:=by rw[h.inv.cl];simp
 have hr: ¬(lU s.p k=false∨um s.p 0=false):=by rw[r1,r2];simp
 have hW: ¬s.p.W≠[]:=by rw[h.inv.w];simp
 by_cases h0:(takeD 0 [[0]] e s.p.d k 0 false).2.1=0
 ·have e1:jO 0 [[0]] e s.p k 0=(⟨(takeD 0 [[0]] e s.p.d k 0 false).1,s.p.most,s.p.R,s.p.T++[(takeD 0 [[0]] e s.p.d k 0 false).2.2],s.p.W,s.p.G,s.p.last,s.p.cl⟩,0,(takeD 0 [[0]] e s.p.d k 0 false).2.2):=by
   unfold jO;rw[if_neg hc,if_neg hr,if_neg hW,if_pos h0]
  have c0:(jO 0 [[0]] e s.p k 0).2.1=0:=by rw[e1]
  refine⟨?_,.inl c0⟩;rw[qQ c0] at HI ⊢;rw[e1] at HI ⊢;refine⟨HI,su.trans h.h,h.m,?_,?_⟩
  ·simp only[aV,cu];omega
  ·simp only[aV,cu];omega
 rcases dA s.p.R with hR|⟨R',o,hR⟩
 ·have e1:jO 0 [[0]] e s.p k 0=((lW (s.p.atD (takeD 0 [[0]] e s.p.d k 0 false).1)).1,(lW (s.p.atD (takeD 0 [[0]] e s.p.d k 0 false).1)).2,(0,0)):=by
   unfold jO;rw[if_neg hc,if_neg hr,if_neg hW,if_neg h0,hR];rfl
  have hw8: ¬8≤(s.p.atD (takeD 0 [[0]] e s.p.d k 0 false).1).W.length:=by show¬8≤s.p.W.length;rw[h.inv.w];simp
  have ew:lW (s.p.atD (takeD 0 [[0]] e s.p.d k 0 false).1)=(⟨(takeD 0 [[0]] e s.p.d k 0 false).1,s.p.most,s.p.R,s.p.T,[s.p.last+1],s.p.G,s.p.last+1,s.p.cl⟩,8):=by
   unfold lW;rw[if_neg hw8];show(Po.mk _ _ _ _ (s.p.W++_) _ _ _,8)=_;rw[h.inv.w];rfl
  rw[ew] at e1;have c8:(jO 0 [[0]] e s.p k 0).2.1=8:=by rw[e1]
  refine⟨?_,.inr ⟨c8,hR⟩⟩;rw[sH (by rw[c8];simp)] at HI ⊢;rw[e1] at HI ⊢;simp only at HI ⊢;rw[Gw (s:=s) (q:=⟨(takeD 0 [[0]] e s.p.d k 0 false).1,s.p.most,s.p.R,s.p.T,[s.p.last+1],s.p.G,s.p.last+1,s.p.cl⟩) h.inv.cl (t:=s.p.last+1) rfl h.inv.cl] at HI ⊢;exact⟨HI,su.trans h.h,h.m,hj,ht⟩
 ·have hR':s.p.R=R'++[o]:=by rw[hR,List.concat_eq_append]
  have hg:s.p.R.getLast?=some o:=by rw[hR'];simp
  have e1:jO 0 [[0]] e s.p k 0=(⟨(takeD 0 [[0]] e s.p.d k 0 false).1,s.p.most,s.p.R.dropLast,s.p.T++[o],s.p.W,s.p.G,s.p.last,s.p.cl⟩,0,o):=by
   unfold jO;rw[if_neg hc,if_neg hr,if_neg hW,if_neg h0,hg]
  have c0:(jO 0 [[0]] e s.p k 0).2.1=0:=by rw[e1]
  refine⟨?_,.inl c0⟩;rw[qQ c0] at HI ⊢;rw[e1] at HI ⊢;have l1:s.p.R.length=R'.length+1:=by rw[hR'];simp
  refine⟨HI,su.trans h.h,h.m,?_,?_⟩
  ·simp only[aV,cu,List.length_dropLast];omega
  ·simp only[aV,cu];omega
theorem StJ.Ey (hO:qY [[0]] s.p.d.c.L.length) (h:StJ e sz s) (hk:0≤k∧k<2) (hL:s.p.R≠[]):(jO 0 [[0]] e s.p k 0).2.1=0:=by
 rcases(h.take hO hk).2 with q|⟨_,q⟩
 ·exact q
 ·exact absurd q hL
end
end Go.Proofs.YtehhldljdakgeaaGreatDoor
