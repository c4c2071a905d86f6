/- Lemmas. -/
import Derived.Test.YtehhldljdakgeaaGreatDoorQb01
import Derived.Test.YtehhldljdakgeaaGreatDoorQb07
set_option linter.unusedSimpArgs false
set_option linter.unusedVariables false
set_option maxHeartbeats 16000000
set_option maxRecDepth 100000
namespace Go.Proofs.YtehhldljdakgeaaGreatDoor
open Go.RowKit Go.Maps Go.Proofs.Tryz
attribute [local go_sem ↓] aJ aK
def bools (T:List Bool):List Value:=T.map Value.bool
theorem qF (T:List Bool):(bools T).length=T.length:=by simp[bools]
theorem oq {T:List Bool} {j:Nat} {b:Bool} (h:T[j]?=some b):(bools T)[j]?=some (.bool b):=by simp[bools,h]
theorem Hg (T:List Bool) (k:Nat) (b:Bool):bools (T.set k b)=(bools T).set k (.bool b):=by simp[bools,List.map_set]
abbrev SA:=List (Nat×Nat)
def lW (A:SA):List Value:=A.map fun p=>.pointer (some ⟨p.1,0,none⟩)
theorem sj (A:SA):(lW A).length=A.length:=by simp[lW]
theorem BI {A:SA} {j:Nat} {p:Nat×Nat} (h:A[j]?=some p):(lW A)[j]?=some (.pointer (some ⟨p.1,0,none⟩)):=by simp[lW,h]
theorem BJ (A:SA): ∀u∈lW A,u.oneCell'=true:=by
 intro u hu;obtain⟨p,_,rfl⟩:=bC.1 hu;rfl
theorem elSlab:El 184 211 (.pointer none) 8:=⟨fP,kR,rfl,om⟩
def qm (s:Sl) (gt:Nat):List Value:=[.int .i64 s.nd,.int .i64 s.pg,.int .i64 0,.slice (some ⟨gt,0,none⟩) s.T.length s.T.length,.int .i64 (kK s)]
def uX (w:World) (p:Nat×Nat) (s:Sl):Prop:=jR w p.1 (qm s p.2)∧jR w p.2 (bools s.T)
def ay (A:SA):List Nat:=A.flatMap fun p=>[p.1,p.2]
theorem su {A:SA} {y:Nat}:y∈ay A↔∃p∈A,y=p.1∨y=p.2:=by simp[ay]
def cay (pc:Nat) (v:Value) (A:SA):List Nat:=pc::(jS v++ay A)
structure BK (X:List Nat) (B:Nat) (w:World) (pc pz e:Nat) (v:Value) (A:SA) (C:List Sl):Prop where
 c:jR w pc [.pointer (some ⟨pz,0,none⟩),.int .i64 e,v]
 row:w.ownsRow B 211 1 v C.length (lW A)
 len:A.length=C.length
 sl: ∀(i:Nat) (p:Nat×Nat) (s:Sl),A[i]?=some p→C[i]?=some s→uX w p s
 mem: ∀y∈cay pc v A,y∈X
 nd:(cay pc v A).Nodup
 lim: ∀y∈cay pc v A,B≤y∧y<w.heap.size
section
variable {X Y S:List Nat} {B:Nat} {w w':World} {pc pz e:Nat} {v:Value} {A:SA} {C:List Sl}
theorem uX.keep {p:Nat×Nat} {s:Sl} (h:uX w p s) (k:Keep S w w') (h1:p.1∉S) (h2:p.2∉S):uX w' p s:=⟨h.1.keep k h1,h.2.keep k h2⟩
theorem BK.keep (h:BK X B w pc pz e v A C) (k:Keep S w w') (hs: ∀s∈S,s∉cay pc v A):BK X B w' pc pz e v A C:=
 ⟨h.c.keep k (fun q=>hs _ q (by simp[cay])),jQ h.row k (fun x hx q=>hs x hx (by simp[cay,q])),h.len,fun i p s hp hq=>(h.sl i p s hp hq).keep k (fun q=>hs _ q (by
   unfold cay;exact ak _ (aj _ (su.2 ⟨p,aF hp,.inl rfl⟩)))) (fun q=>hs _ q (by
   unfold cay;exact ak _ (aj _ (su.2 ⟨p,aF hp,.inr rfl⟩)))),h.mem,h.nd,fun y hy=>⟨(h.lim y hy).1,aC (h.lim y hy).2 k.size⟩⟩
theorem BK.below (h:BK X B w pc pz e v A C) (k:Below w.heap.size w w'):BK X B w' pc pz e v A C:=h.keep (Keep.of (S:=[]) k) (fun s q=>by cases q)
theorem BK.more (h:BK X B w pc pz e v A C) (hX: ∀x∈X,x∈Y):BK Y B w pc pz e v A C:=⟨h.c,h.row,h.len,h.sl,fun y hy=>hX y (h.mem y hy),h.nd,h.lim⟩
theorem BK.at (h:BK X B w pc pz e v A C) {i:Nat} {s:Sl} (hs:C[i]?=some s): ∃p,A[i]?=some p∧uX w p s∧p.1∈cay pc v A∧p.2∈cay pc v A:=by
 have hl:=(au.1 hs).1;obtain⟨p,hp⟩: ∃p,A[i]?=some p:=⟨A[i]'(by rw[h.len];exact hl),aA _⟩;have hm:=aF hp;exact⟨p,hp,h.sl i p s hp hs,ak _ (aj _ (su.2 ⟨p,hm,.inl rfl⟩)),ak _ (aj _ (su.2 ⟨p,hm,.inr rfl⟩))⟩
theorem BK.form (h:BK X B w pc pz e v A C): ∃q k,v= .slice q C.length k∧C.length≤k∧k≤maxLen∧∀j p,A[j]?=some p→∃g,q=some ⟨g,0,none⟩∧g<w.heap.size∧w.cell? ⟨g,j,none⟩=some (.pointer (some ⟨p.1,0,none⟩)):=by
 have ho:=h.row;have hln:=h.len;rcases h.row.2 with⟨rfl,h3⟩|⟨g,cap,cur,rfl,hg,hh,hcap,hmax,_⟩
 ·refine⟨none,0,by rw[h3],om,by unfold maxLen;omega,fun j p hj=> ?_⟩
  have:=(au.1 hj).1;omega
 ·refine⟨some ⟨g,0,none⟩,cap,rfl,hcap,hmax,fun j p hj=>⟨g,rfl,(ho.lt g rfl).2,?_⟩⟩
  have hlt:=(au.1 hj).1;rw[ho.cellAt j om];exact BI hj
theorem Qa {A:SA} (h:(ay A).Nodup) {i j:Nat} {p r:Nat×Nat} (hp:A[i]?=some p) (hr:A[j]?=some r) (hne:i≠j):p.1≠r.1∧p.1≠r.2∧p.2≠r.1∧p.2≠r.2:=by
 induction A generalizing i j with
 |nil=>simp at hp
 |cons a A ih=>
  simp only[ay,dL] at h;obtain⟨n1,n2,n3⟩:=bF.1 h;cases i with
  |zero=>
   cases j with
   |zero=>omega
   |succ j=>
    simp at hp hr;subst hp;have hm:=aF hr;have m1:r.1∈A.flatMap fun p=>[p.1,p.2]:=su.2 ⟨r,hm,.inl rfl⟩
    have m2:r.2∈A.flatMap fun p=>[p.1,p.2]:=su.2 ⟨r,hm,.inr rfl⟩
    exact⟨n3 _ sI _ m1,n3 _ sI _ m2,n3 _ sI _ m1,n3 _ sI _ m2⟩
  |succ i=>
   cases j with
   |zero=>
    simp at hp hr;subst hr;have hm:=aF hp;have m1:p.1∈A.flatMap fun p=>[p.1,p.2]:=su.2 ⟨p,hm,.inl rfl⟩
    have m2:p.2∈A.flatMap fun p=>[p.1,p.2]:=su.2 ⟨p,hm,.inr rfl⟩
    exact⟨fun q=>n3 _ sI _ m1 q.symm,fun q=>n3 _ sI _ m1 q.symm,fun q=>n3 _ sI _ m2 q.symm,fun q=>n3 _ sI _ m2 q.symm⟩
   |succ j=>exact ih n2 (by simpa using hp) (by simpa using hr) om
theorem Eo {A:SA} (h:(ay A).Nodup) {i:Nat} {p:Nat×Nat} (hp:A[i]?=some p):p.1≠p.2:=by
 induction A generalizing i with
 |nil=>simp at hp
 |cons a A ih=>
  simp only[ay,dL] at h;obtain⟨n1,n2,_⟩:=bF.1 h;cases i with
  |zero=>simp at hp;subst hp;simpa using n1
  |succ i=>exact ih n2 (by simpa using hp)
theorem BK.nday (h:BK X B w pc pz e v A C):(ay A).Nodup:=(bF.1 (aS.1 h.nd).2).2.1
theorem BK.use (h:BK X B w pc pz e v A C) {i:Nat} {p:Nat×Nat} (hp:A[i]?=some p) {s:Sl} (hs:uX w' p s) (k:Keep [p.1,p.2] w w'):BK X B w' pc pz e v A (C.set i s):=by
 have hm:=aF hp;have a1:p.1∈ay A:=su.2 ⟨p,hm,.inl rfl⟩;have a2:p.2∈ay A:=su.2 ⟨p,hm,.inr rfl⟩;obtain⟨n0,n1⟩:=aS.1 h.nd;obtain⟨_,n2,n3⟩:=bF.1 n1;have npc:pc∉[p.1,p.2]:=fun q=>by
  simp at q;rcases q with q|q
  ·exact n0 (aj _ (q▸a1))
  ·exact n0 (aj _ (q▸a2))
 have ho:w'.ownsRow B 211 1 v C.length (lW A):=jQ h.row k fun x hx q=>by
  simp at hx;rcases hx with rfl|rfl
  ·exact n3 _ q _ a1 rfl
  ·exact n3 _ q _ a2 rfl
 refine⟨h.c.keep k npc,by rw[cu];exact ho,by simpa using h.len,fun j r z hr hz=> ?_,h.mem,h.nd,fun y hy=>⟨(h.lim y hy).1,aC (h.lim y hy).2 k.size⟩⟩;by_cases e:i=j
 ·subst e
  rw[hp] at hr;obtain rfl:=aO hr;rw[aZ (by rw[←h.len];exact(au.1 hp).1)] at hz;obtain rfl:=aO hz;exact hs
 ·rw[bQ e] at hz
  obtain⟨q1,q2,q3,q4⟩:=Qa n2 hr hp om;exact(h.sl j r z hr hz).keep k (by simp;exact⟨q1,q2⟩) (by simp;exact⟨q3,q4⟩)
end
def obV (o:Ob):Value:=.agg #[.int .i64 o.1,.int .i64 o.2]
structure CS (B:Nat) (w:World) (pc pz:Nat) (mn lw hi:Int) (O:List (List Int)) (e:Nat) (X:List Nat) (v:Value) (A:SA) (c:Ca):Prop where
 z:xK X B w pz mn lw hi O c.L
 ch:BK X B w pc pz e v A c.C
 ne: ∀y∈cay pc v A,y∉ys c.L
 l0:0<c.L.length
section
variable {X Y S:List Nat} {B:Nat} {w w' w1:World} {pc pz e:Nat} {mn lw hi:Int} {O:List (List Int)} {v v':Value} {A:SA} {c:Ca} {L':List Nd}
theorem CS.below (h:CS B w pc pz mn lw hi O e X v A c) (k:Below w.heap.size w w'):CS B w' pc pz mn lw hi O e X v A c:=⟨h.z.below k,h.ch.below k,h.ne,h.l0⟩
theorem CS.keep (h:CS B w pc pz mn lw hi O e X v A c) (k:Keep S w w') (hs: ∀s∈S,s∉cay pc v A∧((s∈X∧s∉ys c.L)∨w.heap.size≤s)):CS B w' pc pz mn lw hi O e X v A c:=
 ⟨h.z.keep k (fun s q=>(hs s q).2),h.ch.keep k (fun s q=>(hs s q).1),h.ne,h.l0⟩
theorem CS.more (h:CS B w pc pz mn lw hi O e X v A c) (hX: ∀x∈X,x∈Y) (hY: ∀y∈Y,y∈X∨w.heap.size≤y):CS B w pc pz mn lw hi O e Y v A c:=⟨h.z.more hX hY,h.ch.more hX,h.ne,h.l0⟩
theorem CS.zone (h:CS B w pc pz mn lw hi O e X v A c) (k:Keep (ys c.L) w w') (hb:pR B w' pz mn lw hi O L') (hs:rY c.L L'):CS B w' pc pz mn lw hi O e X v A ⟨L',c.C⟩:=
 ⟨h.z.after k hb hs,h.ch.keep k (fun s q r=>h.ne s r q),by show∀y∈cay pc v A,y∉ys L';rw[hs.ys];exact h.ne,by show 0<L'.length;rw[←hs.1];exact h.l0⟩
theorem CS.slab (h:CS B w pc pz mn lw hi O e X v A c) {i:Nat} {p:Nat×Nat} (hp:A[i]?=some p):p.1∈cay pc v A∧p.2∈cay pc v A∧p.1≠p.2:=by
 have hm:=aF hp;exact⟨ak _ (aj _ (su.2 ⟨p,hm,.inl rfl⟩)),ak _ (aj _ (su.2 ⟨p,hm,.inr rfl⟩)),Eo h.ch.nday hp⟩
theorem CS.use (h:CS B w pc pz mn lw hi O e X v A c) {i:Nat} {p:Nat×Nat} (hp:A[i]?=some p) {s:Sl} (hs:uX w' p s) (k:Keep [p.1,p.2] w w'):CS B w' pc pz mn lw hi O e X v A ⟨c.L,c.C.set i s⟩:=by
 obtain⟨m1,m2,_⟩:=h.slab hp;refine⟨h.z.keep k (fun x hx=>.inl ?_),h.ch.use hp hs k,h.ne,h.l0⟩;simp at hx;rcases hx with rfl|rfl
 ·exact⟨h.ch.mem _ m1,h.ne _ m1⟩
 ·exact⟨h.ch.mem _ m2,h.ne _ m2⟩
theorem uX.put {p:Nat×Nat} {s:Sl} {k:Nat} (b:Bool) (h:uX w p s) (hne:p.1≠p.2) (hk:k<s.T.length):
 uX ((w.setCell ⟨p.2,k,none⟩ (.bool b)).setCell ⟨p.1,4,none⟩ (.int .i64 (kK (oH s k b)))) p (oH s k b)∧Keep [p.1,p.2] w ((w.setCell ⟨p.2,k,none⟩ (.bool b)).setCell ⟨p.1,4,none⟩ (.int .i64 (kK (oH s k b)))):=by
 refine⟨⟨?_,?_⟩,((Keep.refl _ _).setCell (p:=⟨p.2,k,none⟩) (.inl sI) _).setCell (p:=⟨p.1,4,none⟩) (.inl sI) _⟩
 ·have h1:=(h.1.far (c:=p.2) (fun q=>hne q.symm) k (.bool b)).store 4 (.int .i64 (kK (oH s k b))) (by simp[qm])
  have e:(qm s p.2).set 4 (.int .i64 (kK (oH s k b)))=qm (oH s k b) p.2:=by simp[qm,oH]
  rwa [e] at h1
 ·have h2:=(h.2.store k (.bool b) (by rw[qF];exact hk)).far (c:=p.1) hne 4 (.int .i64 (kK (oH s k b)))
  rw[←Hg] at h2;exact h2
theorem yh {α:Type} {l:List α} {i:Nat} {x:α} (hi:i≤l.length) (j:Nat):(l.take i++x::l.drop i)[j]?=if j<i then l[j]? else if j=i then some x else l[j-1]?:=by
 have hl:(l.take i).length=i:=by rw[bD];omega
 split
 ·rename_i h
  rw[bJ om,fC,if_pos h]
 ·split
  ·rename_i h;subst h
   rw[bP om,hl,iL];rfl
  ·rw[bP om,hl]
   obtain⟨d,hd⟩: ∃d,j-i=d+1:=⟨j-i-1,om⟩;rw[hd,jk,cO];congr 1;omega
theorem Hl (A:SA) (i:Nat) (p:Nat×Nat):lW (A.take i++p::A.drop i)=(lW A).take i++ .pointer (some ⟨p.1,0,none⟩)::(lW A).drop i:=by simp[lW,List.map_take,List.map_drop]
theorem BL (A:SA) (i:Nat) (p:Nat×Nat):(ay (A.take i++p::A.drop i)).Perm (p.1::p.2::ay A):=by
 have h:(A.take i++p::A.drop i).Perm (p::A):=by
  have:=iB (a:=p) (l₁:=A.take i) (l₂:=A.drop i);rwa [bX] at this
 exact h.flatMap_right (fun p=>[p.1,p.2])
theorem BK.ins {C:List Sl} (h:BK X B w pc pz e v A C) {p:Nat×Nat} {s:Sl} {i n:Nat} (hi:i≤C.length) (k:Keep (jS v) w w1) (own:w1.ownsRow B 211 1 v' (C.length+1) (lW (A.take i++p::A.drop i))) (hw':w'=w1.setCell ⟨pc,2,none⟩ v') (hs:uX w p s)
 (n1:p.1∉cay pc v A) (n2:p.2∉cay pc v A) (n12:p.1≠p.2) (b1:B≤p.1) (b2:B≤p.2) (hv': ∀y∈jS v',y∈jS v∨w.heap.size≤y):
 BK (p.1::p.2::(jS v'++X)) B w' pc pz e v' (A.take i++p::A.drop i) (C.take i++s::C.drop i)∧Keep (pc::jS v) w w'∧∀y∈cay pc v' (A.take i++p::A.drop i),y∈cay pc v A∨y=p.1∨y=p.2∨w.heap.size≤y:=by
 obtain⟨n0,nn⟩:=aS.1 h.nd;obtain⟨no,na,nx⟩:=bF.1 nn;have hpv:pc∉jS v:=fun q=>n0 (av _ q)
 have hpa:pc∉ay A:=fun q=>n0 (aj _ q)
 have kk:Keep (pc::jS v) w w':=by rw[hw'];exact(k.mono (fun _ q=>ak _ q)).setCell (p:=⟨pc,2,none⟩) (.inl sI) _
 have hpc:=h.c.lt;have hpv':pc∉jS v':=fun q=>by
  rcases hv' _ q with r|r
  ·exact hpv r
  ·omega
 have key: ∀y∈cay pc v' (A.take i++p::A.drop i),y=pc∨y∈jS v'∨y=p.1∨y=p.2∨y∈ay A:=fun y hy=>by
  rcases aB.1 hy with q|q
  ·exact .inl q
  ·rcases aD.1 q with r|r
   ·exact .inr (.inl r)
   ·have:=(BL A i p).mem_iff.1 r
    simp at this;rcases this with t|t|t
    ·exact .inr (.inr (.inl t))
    ·exact .inr (.inr (.inr (.inl t)))
    ·exact .inr (.inr (.inr (.inr t)))
 have hal: ∀y∈ay A,B≤y∧y<w.heap.size:=fun y hy=>h.lim y (ak _ (aj _ hy))
 have hvl: ∀y∈jS v',B≤y∧y<w'.heap.size:=fun y hy=>by
  have:=jZ own hy;refine⟨this.1,?_⟩;rw[hw'];simpa using this.2
 have e1:(C.take i++s::C.drop i).length=C.length+1:=by simp;omega
 refine⟨⟨?_,?_,?_,fun j r z hr hz=> ?_,fun y hy=> ?_,?_,fun y hy=> ?_⟩,kk,fun y hy=> ?_⟩
 ·rw[hw']
  have:=(h.c.keep k hpv).store 2 v' sI;exact this
 ·rw[e1,hw']
  exact jQ own ((Keep.refl [pc] _).setCell (p:=⟨pc,2,none⟩) (.inl sI) _) (fun x hx q=>by simp at hx;subst hx;exact hpv' q)
 ·have:=h.len
  simp;omega
 ·rw[yh (by rw[h.len];exact hi)] at hr
  rw[yh hi] at hz;have old: ∀j r z,A[j]?=some r→C[j]?=some z→uX w' r z:=fun j r z hr hz=>by
   have hm:=aF hr;have a1:r.1∈ay A:=su.2 ⟨r,hm,.inl rfl⟩;have a2:r.2∈ay A:=su.2 ⟨r,hm,.inr rfl⟩;refine(h.sl j r z hr hz).keep kk (fun q=> ?_) (fun q=> ?_)
   ·rcases aB.1 q with t|t
    ·exact hpa (t▸a1)
    ·exact nx _ t _ a1 rfl
   ·rcases aB.1 q with t|t
    ·exact hpa (t▸a2)
    ·exact nx _ t _ a2 rfl
  split at hr
  ·rename_i q
   rw[if_pos q] at hz;exact old j r z hr hz
  ·rename_i q
   rw[if_neg q] at hz;split at hr
   ·rename_i t
    rw[if_pos t] at hz;obtain rfl:=aO hr;obtain rfl:=aO hz;refine hs.keep kk (fun q=> ?_) (fun q=> ?_)
    ·rcases aB.1 q with t|t
     ·exact n1 (t▸aG ..)
     ·exact n1 (ak _ (av _ t))
    ·rcases aB.1 q with t|t
     ·exact n2 (t▸aG ..)
     ·exact n2 (ak _ (av _ t))
   ·rename_i t
    rw[if_neg t] at hz;exact old _ r z hr hz
 ·rcases key y hy with q|q|q|q|q
  ·have:=h.mem pc (aG ..)
   subst q;simp[this]
  ·simp[q]
  ·simp[q]
  ·simp[q]
  ·have:=h.mem y (ak _ (aj _ q))
   simp[this]
 ·refine aS.2 ⟨fun q=> ?_,bF.2 ⟨?_,(BL A i p).nodup_iff.2 ?_,fun a ha b hb hab=> ?_⟩⟩
  ·rcases aD.1 q with r|r
   ·exact hpv' r
   ·have:=(BL A i p).mem_iff.1 r
    simp at this;rcases this with t|t|t
    ·exact n1 (t▸aG ..)
    ·exact n2 (t▸aG ..)
    ·exact hpa t
  ·unfold jS;cases v'.ownBlock<;>simp
  ·refine aS.2 ⟨fun q=> ?_,aS.2 ⟨fun q=> ?_,na⟩⟩
   ·rcases aB.1 q with t|t
    ·exact n12 t
    ·exact n1 (ak _ (aj _ t))
   ·exact n2 (ak _ (aj _ q))
  ·subst hab
   have hb':=(BL A i p).mem_iff.1 hb;have hsl:p.1<w.heap.size∧p.2<w.heap.size:=⟨hs.1.lt,hs.2.lt⟩;rcases hv' a ha with r|r
   ·simp at hb'
    rcases hb' with t|t|t
    ·exact n1 (t▸ak _ (av _ r))
    ·exact n2 (t▸ak _ (av _ r))
    ·exact nx _ r _ t rfl
   ·simp at hb'
    rcases hb' with t|t|t
    ·omega
    ·omega
    ·have:=hal _ t;omega
 ·have hz:w.heap.size≤w'.heap.size:=kk.size
  rcases key y hy with q|q|q|q|q
  ·have:=h.lim pc (aG ..)
   subst q;exact⟨this.1,om⟩
  ·exact hvl y q
  ·subst q;have:=hs.1.lt;exact⟨b1,om⟩
  ·subst q;have:=hs.2.lt;exact⟨b2,om⟩
  ·have:=hal y q;exact⟨this.1,om⟩
 ·rcases key y hy with q|q|q|q|q
  ·exact .inl (by subst q;exact aG ..)
  ·rcases hv' y q with r|r
   ·exact .inl (ak _ (av _ r))
   ·exact .inr (.inr (.inr r))
  ·exact .inr (.inl q)
  ·exact .inr (.inr (.inl q))
  ·exact .inl (ak _ (aj _ q))
end
def Vi (n a m b:Int):Int:=if Bj n m=0 then Bj a b else Bj n m
theorem Vj (a b:Int):(Bj a b<0↔a<b)∧(Bj a b=0↔a=b):=by
 unfold Bj;split
 ·omega
 ·split<;>omega
theorem ordP_lt (s:Sl) (j a:Int):decide (Vi s.nd s.pg j a<0)=decide (ltP s j a):=by
 obtain⟨p1,p2⟩:=Vj s.nd j;obtain⟨q1,q2⟩:=Vj s.pg a;rw[Bool.eq_iff_iff];simp only[decide_eq_true_eq];unfold Vi ltP;split
 ·rename_i h
  rw[p2] at h;rw[q1];constructor
  ·intro q;exact .inr ⟨h,q⟩
  ·rintro(q|⟨_,q⟩)
   ·omega
   ·exact q
 ·rename_i h
  rw[p2] at h;rw[p1];constructor
  ·intro q;exact .inl q
  ·rintro(q|⟨q,_⟩)
   ·exact q
   ·exact absurd q h
theorem or_two (g:Nat) (x y:Int) (w:World) (h0:w.cell? ⟨g,0,none⟩=some (.int .i64 x)) (h1:w.cell? ⟨g,1,none⟩=some (.int .i64 y)) (hl:g<w.heap.size):
 Calls prog 166 #[.slice (some ⟨g,0,none⟩) 2 2] w fun e w'=>e= .returned (.int .i64 (if x=0 then y else x))∧w=w':=by
 by_cases hx:x=0
 ·have d0:(x !=0)=false:=by simp[hx]
  rw[if_pos hx];by_cases hy:y=0
  ·have d1:(y !=0)=false:=by simp[hy]
   rw[hy];subst hx hy;go_in
   go_wp2;go_loop [5,8] (fun _ iv=>∃i:Nat,i≤2∧iv= .int .i64 i) (fun _ iv=>2-(intOf iv).toNat)
   case atStart=>exact⟨0,om,by go_num⟩
   case round=>
    obtain⟨i,hi,rfl⟩:=hrel;rcases(show i=0∨i=1∨i=2 by omega) with rfl|rfl|rfl
    ·go_wp2
     go_round
     case rel=>exact⟨1,om,by go_num⟩
     case measure=>simp[intOf]
    ·go_wp2
     go_round
     case rel=>exact⟨2,om,by go_num⟩
     case measure=>simp[intOf]
    ·go_wp2
     go_ret;exact⟨rfl,rfl⟩
  ·have d1:(y !=0)=true:=by simp[hy]
   subst hx;go_in
   go_wp2;go_loop [5,8] (fun _ iv=>∃i:Nat,i≤1∧iv= .int .i64 i) (fun _ iv=>2-(intOf iv).toNat)
   case atStart=>exact⟨0,om,by go_num⟩
   case round=>
    obtain⟨i,hi,rfl⟩:=hrel;rcases(show i=0∨i=1 by omega) with rfl|rfl
    ·go_wp2
     go_round
     case rel=>exact⟨1,om,by go_num⟩
     case measure=>simp[intOf]
    ·go_wp2
     go_ret;exact⟨rfl,rfl⟩
 ·have d0:(x !=0)=true:=by simp[hx]
  rw[if_neg hx];clear hx;go_in
  go_wp2;go_loop [5,8] (fun _ iv=>iv= .int .i64 0) (fun _ _=>0)
  case atStart=>rfl
  case round=>
   subst hrel;go_wp2;go_ret;exact⟨rfl,rfl⟩
theorem JH (n a k m b l:Int) (w:World):
 Calls prog 138 #[.agg #[.int .i64 n,.int .i64 a,.int .i64 k],.agg #[.int .i64 m,.int .i64 b,.int .i64 l]] w fun e w'=>e= .returned (.int .i64 (Vi n a m b))∧Below w.heap.size w w':=by
 have CC:Hid (∀(x y:Int) (W:World),Calls prog 123 #[.int .i64 x,.int .i64 y] W fun e w'=>e= .returned (.int .i64 (Bj x y))∧w'=W):=fun x y W=>(xY x y W).mono fun e w' ⟨h1,h2⟩=>⟨h1,h2.symm⟩
 obtain⟨c1,hc1⟩:=eY (Bj n m);obtain⟨c2,hc2⟩:=eY (Bj a b);have CA:Hid (∀W,Calls prog 123 #[.int .i64 n,.int .i64 m] W fun e w'=>e= .returned (.int .i64 c1)∧w'=W):=fun W=>by rw[hc1];exact CC.out n m W
 have CB:Hid (∀W,Calls prog 123 #[.int .i64 a,.int .i64 b] W fun e w'=>e= .returned (.int .i64 c2)∧w'=W):=fun W=>by rw[hc2];exact CC.out a b W
 have hp:Vi n a m b=if c1=0 then c2 else c1:=by unfold Vi;rw[hc1,hc2]
 rw[hp];clear hc1 hc2 hp CC;go_in
 go_wp2_with fail;refine lJ 12 kR kR ?_;simp only[aQ,aV,aP,aU];iterate 4 still_step
 still_call (CA.out _)
 iterate 6 still_step
 still_call (CB.out _)
 refine wpStill_nil ?_;go_wp2_with fail;refine(or_two (w.heap.size+1+1) c1 c2 _ (by rw[gG,bE _ _ _ _ sI];rfl) (by rw[gG,bE _ _ _ _ sI];rfl) sI).mono ?_;rintro e w1 ⟨rfl,rfl⟩;go_wp2;all_goals
  go_ret;exact⟨rfl,jY⟩
theorem Ep {X:List Nat} (T:List Bool) (g k:Nat) (w:World) (h:jR w g (bools T)) (hf:lG T=k) (hm:oQ T<T.length) (hl:T.length≤64):
 Calls prog 111 #[.slice (some ⟨g,0,none⟩) T.length T.length,.bool false] w fun e w'=>e= .returned (.int .i64 k)∧w=w':=by
 obtain⟨s1,s2,s3⟩:=mX hm;rw[hf] at s1 s2 s3;have ck:=h.c k _ (oq s2);have CB:Hid (∀j,j<k→w.cell? ⟨g,j,none⟩=some (.bool true)):=fun j hj=>h.c j _ (oq (s3 j hj))
 have lt:=h.lt;obtain⟨n,hn⟩:=eY T.length;rw[←hn] at s1 hl ⊢;clear h hf hm s2 s3 hn;go_in
 go_wp2;go_loop [5,8] (fun _ iv=>∃j:Nat,j≤k∧iv= .int .i64 j) (fun _ iv=>n-(intOf iv).toNat)
 case atStart=>exact⟨0,om,by go_num⟩
 case round=>
  obtain⟨j,hj,rfl⟩:=hrel;have j0:(0:Int)≤(j:Int):=om;have j1:(j:Int)<(n:Int):=om;by_cases hjk:j<k
  ·have cj:=CB.out j hjk
   go_wp2;go_round
   case rel=>exact⟨j+1,om,by go_num⟩
   case measure=>simp[intOf];omega
  ·obtain rfl:j=k:=by omega
   go_wp2;go_ret;exact⟨rfl,rfl⟩
theorem uX.cells {w:World} {p:Nat×Nat} {s:Sl} (h:uX w p s):w.cell? ⟨p.1,0,none⟩=some (.int .i64 s.nd)∧w.cell? ⟨p.1,1,none⟩=some (.int .i64 s.pg)∧w.cell? ⟨p.1,2,none⟩=some (.int .i64 0)∧w.cell? ⟨p.1,3,none⟩=some (.slice (some ⟨p.2,0,none⟩) s.T.length s.T.length)∧w.cell? ⟨p.1,4,none⟩=some (.int .i64 (kK s))∧p.1<w.heap.size∧p.2<w.heap.size:=
 ⟨h.1.gC 0,h.1.gC 1,h.1.gC 2,h.1.gC 3,h.1.gC 4,h.1.lt,h.2.lt⟩
def growF:Value:=.func (.func 137) #[] #[]
theorem Ho (p:Nat×Nat) (s:Sl) (j a:Int) (w:World) (h:uX w p s):
 Calls prog 137 #[.pointer (some ⟨p.1,0,none⟩),.agg #[.int .i64 j,.int .i64 a,.int .i64 0]] w fun e w'=>e= .returned (.int .i64 (Vi s.nd s.pg j a))∧Below w.heap.size w w':=by
 have b0:Below w.heap.size w (w.alloc (.cells #[.int .i64 j,.int .i64 a,.int .i64 0] 215)):=jY;have HB0:=ah b0;obtain⟨c0,c1,c2,_,_,l1,_⟩:=uX.cells h;have l2:p.1≠w.heap.size:=om;have l3:p.1<w.heap.size+1:=om;have LP:jR (w.alloc (.cells #[.int .i64 j,.int .i64 a,.int .i64 0] 215)) w.heap.size [.int .i64 j,.int .i64 a,.int .i64 0]:=jR.mk_ w [.int .i64 j,.int .i64 a,.int .i64 0] 215 rfl;have p0:=LP.gC 0;have p1:=LP.gC 1;have p2:=LP.gC 2;have pl:=LP.lt;have OR:=ah (fun W=>JH s.nd s.pg 0 j a 0 W);obtain⟨x,hx⟩:=eY (Vi s.nd s.pg j a);rw[←hx] at OR ⊢;clear h b0 LP hx;go_in
 go_wp2_with fail;refine kG kR kR ?_;repeat(go_big_quiet_step (((go_at_call 138;exact Calls.behind (OR.out _)))))
 refine wpQuiet_nil ?_;intro w1 hw';have hb1:=lN hw';clear hw';obtain⟨c1,f1⟩:=zy hb1;have z1:=hb1.size;try simp at z1 c1 f1
 go_wp2;go_ret;exact⟨rfl,HB0.out.trans (hb1.mono sI)⟩
def hitS (j a:Int) (C:List Sl):Bool:=match C[vZ j a C]? with
 |some s=>Vi s.nd s.pg j a==0
 |none=>false
theorem SY {X:List Nat} {B:Nat} {pc pz e:Nat} {v:Value} {A:SA} {C:List Sl} (j a:Int) (w:World) (h:BK X B w pc pz e v A C) (hp:C.Pairwise ltS) (hn:C.length≤1024):
 Calls prog 136 #[v,.agg #[.int .i64 j,.int .i64 a,.int .i64 0],growF] w fun r w'=>r= .returned (.tuple #[.int .i64 (vZ j a C),.bool (hitS j a C)])∧Below w.heap.size w w':=by
 obtain⟨q,k,rfl,hk1,hk2,hrow⟩:=h.form;have HC:=ah h;have D6:=ah hrow;have hle:=zH j a C;have PL:Hid (∀(i:Nat) (s:Sl),i<vZ j a C→C[i]?=some s→ltP s j a):=fun i s hi hs=>Jv hi hs
 have PG:Hid (∀(i:Nat) (s:Sl),vZ j a C≤i→C[i]?=some s→¬ltP s j a):=fun i s hi hs=>Va hp hi hs
 obtain⟨n,hnn⟩:=eY C.length;have EN:=ah hnn;obtain⟨m,hm⟩:=eY (vZ j a C);rw[←hnn] at hn hk1 hle ⊢;have HT1:Hid (∀s,C[vZ j a C]?=some s→hitS j a C=(Vi s.nd s.pg j a==0)):=fun s hs=>by unfold hitS;rw[hs]
 have HT2:Hid (C.length≤vZ j a C→hitS j a C=false):=fun hl=>by unfold hitS;rw[List.getElem?_eq_none hl]
 obtain⟨bb,hbb⟩:=eY (hitS j a C);rw[←hbb] at HT1 HT2 ⊢;rw[←hm] at PL PG HT1 HT2 hle ⊢;clear hbb;have LP:=ah (show jR (w.alloc (.cells #[.int .i64 j,.int .i64 a,.int .i64 0] 215)) w.heap.size [.int .i64 j,.int .i64 a,.int .i64 0] from jR.mk_ w [.int .i64 j,.int .i64 a,.int .i64 0] 215 rfl);have HB0:=ah (show Below w.heap.size w (w.alloc (.cells #[.int .i64 j,.int .i64 a,.int .i64 0] 215)) from jY);unfold maxLen at hk2;unfold growF;clear h hp hrow hnn hm;go_in
 go_wp2_with fail;go_loopw [9,10] (fun iv jv wr=>∃x y:Nat,x≤m∧m≤y∧y≤n∧iv= .int .i64 x∧jv= .int .i64 y∧Hid (jR wr w.heap.size [.int .i64 j,.int .i64 a,.int .i64 0])∧Below w.heap.size w wr) (fun iv jv _=>(intOf jv-intOf iv).toNat);case atStart=>exact⟨0,n,om,hle,aI _,by go_num,rfl,LP,HB0.out⟩
 case round=>
  obtain⟨x,y,hx,hy,hyn,rfl,rfl,HL,hbel⟩:=hrel;have p0:=HL.out.gC 0;have p1:=HL.out.gC 1;have p2:=HL.out.gC 2;have pl:=HL.out.lt;by_cases hxy:x<y
  ·obtain⟨d,hd⟩:=eY ((x+y) / 2)
   have d1:x≤d:=om;have d2:d<y:=om;obtain⟨s,hs⟩: ∃s,C[d]?=some s:=⟨C[d]'(by rw[←EN.out];omega),aA _⟩;obtain⟨p,hp,hsl,_⟩:=(HC.out.below hbel).at hs;obtain⟨g,rfl,hg,hc0⟩:=D6.out d p hp;have ck:wr.cell? ⟨g,d,none⟩=some (.pointer (some ⟨p.1,0,none⟩)):=(hbel.cell (p:=⟨g,d,none⟩) hg).trans hc0;have gl:g<wr.heap.size:=aC hg hbel.size;have G1:=ah (fun W (b:Below wr.heap.size wr W)=>Ho p s j a W (hsl.keep (Keep.of (S:=[]) b) sI sI));have hdi:((x:Int)+(y:Int)) / 2=(d:Int):=om;have hdk:d<k:=om;have HPL:=ah (PL.out d s);have HPG:=ah (PG.out d s);have HS:=ah hs;have HD:=ah hd;obtain⟨r,hr⟩:=eY (Vi s.nd s.pg j a);have HR:=ah (show decide (r<0)=decide (ltP s j a) by rw[hr];exact ordP_lt s j a);rw[←hr] at G1;clear hr hsl hs hd hc0 hp;have LW:Hid (∀W,Below wr.heap.size wr W→jR W w.heap.size [.int .i64 j,.int .i64 a,.int .i64 0]∧Below w.heap.size w W):=fun W b=>⟨HL.out.go b,hbel.trans (b.mono hbel.size)⟩
   cases hlt:decide (r<0) with
   |true=>
    go_wp2_with fail;refine kG kR kR ?_;repeat(go_big_quiet_step (((go_at_call 137;exact Calls.behind (G1.out _ (Behind.h _))))))
    refine wpQuiet_nil ?_;intro w4 hw';have hb4:=lN hw';clear hw';obtain⟨c4,f4⟩:=zy hb4;have z4:=hb4.size;try simp at z4 c4 f4
    go_wp2;go_round
    case rel=>
     have hdm:d<m:=Nat.lt_of_not_le fun q=>HPG.out q HS.out (by have:=HR.out;rw[hlt] at this;exact of_decide_eq_true this.symm)
     exact⟨d+1,y,om,om,hyn,by go_num,rfl,(LW.out _ aM).1,(LW.out _ aM).2⟩
    case measure=>simp[intOf];omega
   |false=>
    go_wp2_with fail;refine kG kR kR ?_;repeat(go_big_quiet_step (((go_at_call 137;exact Calls.behind (G1.out _ (Behind.h _))))))
    refine wpQuiet_nil ?_;intro w5 hw';have hb5:=lN hw';clear hw';obtain⟨c5,f5⟩:=zy hb5;have z5:=hb5.size;try simp at z5 c5 f5
    go_wp2;go_round
    case rel=>
     have hnl: ¬ltP s j a:=by have:=HR.out;rw[hlt] at this;exact of_decide_eq_false this.symm
     have hdm:m≤d:=Nat.le_of_not_lt fun q=>hnl (HPL.out q HS.out)
     exact⟨x,d,hx,hdm,om,rfl,rfl,(LW.out _ aM).1,(LW.out _ aM).2⟩
    case measure=>simp[intOf];omega
  ·obtain rfl:x=m:=by omega
   have BW:Hid (∀W,Below wr.heap.size wr W→Below w.heap.size w W):=fun W b=>hbel.trans (b.mono hbel.size)
   by_cases hxn:x<n
   ·obtain⟨s,hs⟩: ∃s,C[x]?=some s:=⟨C[x]'(by rw[←EN.out];omega),aA _⟩
    obtain⟨p,hp,hsl,_⟩:=(HC.out.below hbel).at hs;obtain⟨g,rfl,hg,hc0⟩:=D6.out x p hp;have ck:wr.cell? ⟨g,x,none⟩=some (.pointer (some ⟨p.1,0,none⟩)):=(hbel.cell (p:=⟨g,x,none⟩) hg).trans hc0;have gl:g<wr.heap.size:=aC hg hbel.size;have G1:=ah (fun W (b:Below wr.heap.size wr W)=>Ho p s j a W (hsl.keep (Keep.of (S:=[]) b) sI sI));have hdk:x<k:=om;obtain⟨r,hr⟩:=eY (Vi s.nd s.pg j a);have HB1:=HT1.out s hs;rw[←hr] at G1 HB1;clear HT1 HT2;subst HB1;clear hr hsl hs hc0 hp;go_wp2_with fail;refine kG kR kR ?_;repeat(go_big_quiet_step (((go_at_call 137;exact Calls.behind (G1.out _ (Behind.h _))))))
    refine wpQuiet_nil ?_;intro w6 hw';have hb6:=lN hw';clear hw';obtain⟨c6,f6⟩:=zy hb6;have z6:=hb6.size;try simp at z6 c6 f6
    go_wp2;go_ret2
    exact⟨rfl,BW.out _ aM⟩
   ·have hb0:=HT2.out (by rw[←EN.out];omega)
    clear HT1 HT2;subst hb0;obtain rfl:x=n:=om;go_wp2_with fail;go_quiet (fail);go_wp2;go_ret2
    exact⟨rfl,BW.out _ jY⟩
section
open Go.RowKit Go.Lib
theorem JI {w:World} {b:Nat} {u:Value} (h:jR w b [u]):uP w (some ⟨b,0,none⟩) [u]:=
 .inr ⟨_,rfl,fun j x hj=>by
  rw[addr_add];cases j with
  |zero=>simp at hj;subst hj;exact h.gC 0
  |succ j=>simp at hj⟩
def wO (B:Nat) (v:Value) (us:List Value) (i:Nat) (u:Value) (w:World) (e:Ending) (w':World):Prop:=
 ∃q k,e= .returned (.slice q (us.length+1) k)∧w'.ownsRow B 211 1 (.slice q (us.length+1) k) (us.length+1) (us.take i++u::us.drop i)∧Keep (jS v) w w'∧∀y∈jS (.slice q (us.length+1) k),y∈jS v∨w.heap.size≤y
theorem yM:(prog.info? 211).map (·.size)=some 1:=kR
theorem ins_end {B:Nat} (v:Value) (us:List Value) (u:Value) (vb:Nat) (w:World) (hown:w.ownsRow B 211 1 v us.length us) (hu1:u.oneCell'=true) (hl:us.length≤2000) (hv:jR w vb [u]) (hB:B≤w.heap.size):
 Calls prog 139 #[v,.int .i64 us.length,.slice (some ⟨vb,0,none⟩) 1 1] w (wO B v us us.length u w):=by
 have hsrc:uP w (some ⟨vb,0,none⟩) [u]:=JI hv;have HS:=ah hsrc;have HO:=ah hown;have HU:=ah hu1;have FIN:Hid (∀q k w',w'.ownsRow B 211 1 (.slice q (us++[u]).length k) (us++[u]).length (us++[u])→w.grownBy w' v.ownBlock→((Value.slice q (us++[u]).length k).ownBlock=v.ownBlock∨(Value.slice q (us++[u]).length k).ownBlock=some w.heap.size)→wO B v us us.length u w (.returned (.slice q (us.length+1) k)) w'):=fun q k w' h1 h2 h3=>by
  have e1:(us++[u]).length=us.length+1:=sI;rw[e1] at h1 h3;refine⟨q,k,rfl,by simpa using h1,kJ h2,oM h3⟩
 obtain⟨p,n,k,rfl,hpn⟩: ∃p n k,v= .slice p n k∧(n=us.length∧n≤k∧k≤maxLen):=by
  rcases hown.2 with⟨rfl,h3⟩|⟨g,cap,cur,rfl,hg,hh,hcap,hmax,_⟩
  ·exact⟨none,0,0,rfl,h3.symm,aI _,by unfold maxLen;omega⟩
  ·exact⟨_,_,_,rfl,rfl,hcap,hmax⟩
 obtain⟨rfl,hk,hm⟩:=hpn;unfold maxLen at hm;clear hsrc hown hu1 hv;have n0:(0:Int)≤(us.length:Int):=om;obtain⟨r,hr⟩: ∃r:Value,r= .slice p us.length k:=⟨_,rfl⟩;go_in
 go_wp2_with (first|(at_builtin;refine rD (base:=B) (v:=.slice p us.length k) (us:=us) (ms:=[u]) (p:=some ⟨vb,0,none⟩) elSlab rfl (.tmp 23) (.tmp 24) rf rf 1 rf rfl HO.out HS.out (by intro x hx;simp at hx;subst hx;exact HU.out) (by simp;omega) hB ?_;intro q2 k2 w2 hown2 hg2 ho2));all_goals
  have HF:=ah (FIN.out q2 k2 w2 hown2 hg2 ho2);clear hown2 hg2 ho2 FIN;go_wp2;go_ret;first
  |(simpa using HF.out;done)
  |(have hkk:k=us.length:=by assumption
    subst hkk;simpa using HF.out)
theorem Vk {α:Type} {rl us:List α} {u:α} {i:Nat} (hi:i≤us.length) (hl:us.length+1≤rl.length) (ht:rl.take i=us.take i):
 ((((rl.take i++[u]++rl.drop (i+1)).take (i+1)++us.drop i++(rl.take i++[u]++rl.drop (i+1)).drop (i+1+(us.drop i).length))).take (us.length+1))=us.take i++u::us.drop i:=by
 have e1:(rl.take i++[u]++rl.drop (i+1)).take (i+1)=us.take i++[u]:=by
  rw[cK (by simp;omega),dG (by simp;omega),ht]
 rw[e1];rw[cK (by simp;omega),dG (by simp;omega)];simp
theorem Vl {α:Type} {us rest:List α} {u:α} {i:Nat} (hi:i≤us.length) (hl:1≤rest.length):
 (((((us++rest).take (i+1)++us.drop i++(us++rest).drop (i+1+(us.drop i).length)).take i++[u]++((us++rest).take (i+1)++us.drop i++(us++rest).drop (i+1+(us.drop i).length)).drop (i+[u].length))).take (us.length+1))=us.take i++u::us.drop i:=by
 have e1:((us++rest).take (i+1)++us.drop i++(us++rest).drop (i+1+(us.drop i).length)).take i=us.take i:=by
  rw[bT,cK (by simp;omega),List.take_take,Nat.min_eq_left om,cK hi]
 have e2:((us++rest).take (i+1)++us.drop i++(us++rest).drop (i+1+(us.drop i).length)).drop (i+[u].length)=us.drop i++(us++rest).drop (i+1+(us.drop i).length):=by
  rw[bT,List.drop_append_of_le_length (by simp;omega),gI (by simp;omega)];simp
 rw[e1,e2];rw[←bT,cK (by simp;omega),dG (by simp;omega)];simp
theorem ins_room {B:Nat} (g k i:Nat) (us rest:List Value) (u:Value) (vb:Nat) (w:World) (hR:Row1 w g 211 (us++rest)) (hk:(us++rest).length=k) (hm:k≤maxLen) (hBg:B≤g) (hr1:1≤rest.length) (hi:i<us.length) (h1: ∀x∈us,x.oneCell'=true) (hu1:u.oneCell'=true) (hl:us.length≤2000) (hv:Row1 w vb 211 [u]) (hne:vb≠g):
 Calls prog 139 #[.slice (some ⟨g,0,none⟩) us.length k,.int .i64 i,.slice (some ⟨vb,0,none⟩) 1 1] w (wO B (.slice (some ⟨g,0,none⟩) us.length k) us i u w):=by
 obtain⟨n,hn⟩:=eY us.length;have hrk:n+1≤k:=by rw[←hk,hn];simp;omega
 have hdl:(us.drop i).length=n-i:=by rw[bY,hn]
 have LR:=hR.loc;have hsp: ∀j,j<n+1→(w.cell? ⟨g,j,none⟩).isSome=true:=fun j hj=>by
  obtain⟨x,hx⟩: ∃x,(us++rest)[j]?=some x:=⟨(us++rest)[j]' om,aA _⟩;rw[LR.c j x hx];rfl
 have hfz: ∀j,j<n+1→w.frozen? ⟨g,j,none⟩=false:=fun j hj=>LR.f j om
 have hov: ∀lb cb,(callFunc 167 #[.slice (some ⟨vb,0,none⟩) 1 1,.slice (some ⟨g,i+1,none⟩) lb cb]).run prog w= .ok (.value (.bool false)) w:=fun lb cb=>by
  obtain⟨cv,hv1,hv2⟩:=hv;obtain⟨cg,hg1,hg2⟩:=hR
  have kg:cg.size≠0:=by have:cg.toList.length=k:=by rw[hg2];exact hk
                        simp at this;omega
  rw[run_callFunc_extern Tryz.func167 kR kR kR (e:=Extern.SlicesOverlaps.overlaps #[184,184] #[4]) kR,
   Lib.run_overlaps_apart w 184 4 211 fP 1 (fun _=>kR) ⟨vb,0,none⟩ ⟨g,i+1,none⟩ 1 1 lb cb hne 211 211 cv.size cg.size (by simp only[World.shape?,hv1]) (by simp only[World.shape?,hg1]) kg (by simp only[World.frozen?,hv1];simp) (by simp only[World.frozen?,hv1];simp)]
  rfl
 have hcp1: ∀ty dc sc,(Builtin.copy_ #[184,184] ty #[.slice (some ⟨g,i+1,none⟩) (n-i) dc,.slice (some ⟨g,i,none⟩) (n+1-i) sc]).run prog w.drew= .ok (goInt (us.drop i).length) (w.drew.setCells g (i+1) (us.drop i)):=fun ty dc sc=>
  run_copy_cells w.drew _ _ ty 211 g (i+1) (n-i) dc ⟨g,i,none⟩ (n+1-i) sc (us.drop i) fP yM (by rw[hdl];simp only[Nat.min_def];split<;>omega)
   (fun j v hj=>by
     rw[addr_add];rw[cO] at hj;exact LR.c (i+j) v (by rw[bJ (au.1 hj).1];exact hj))
   (fun j hj=>by rw[hdl] at hj;exact hsp _ om) (fun j hj=>by rw[hdl] at hj;exact hfz _ om) (fun v hv=>h1 v (fV hv))
 obtain⟨W1,hW1⟩:=eY (w.drew.setCells g (i+1) (us.drop i));have R1:=hR.drew.sets (us.drop i) (i+1) (by rw[hdl,hk];omega);rw[←hW1] at R1;have L1:=R1.loc;have l1:((us++rest).take (i+1)++us.drop i++(us++rest).drop (i+1+(us.drop i).length)).length=k:=by simp only[aW,bD,bY] at hk ⊢;omega
 have V1:Row1 W1 vb 211 [u]:=by rw[hW1];exact hv.drew.keep (ou (g:=g) (S:=[g]) _ _ (Keep.refl _ _) (.inl sI)) (by simpa using hne)
 have hcp2: ∀ty dc,(Builtin.copy_ #[184,184] ty #[.slice (some ⟨g,i,none⟩) (n+1-i) dc,.slice (some ⟨vb,0,none⟩) 1 1]).run prog W1= .ok (goInt [u].length) (W1.setCells g i [u]):=fun ty dc=>
  run_copy_cells W1 _ _ ty 211 g i (n+1-i) dc ⟨vb,0,none⟩ 1 1 [u] fP yM (by simp only[Nat.min_def,cB];split<;>omega)
   (fun j v hj=>by rw[addr_add,bK];exact V1.loc.c j v hj)
   (fun j hj=>by
     simp at hj;subst hj;obtain⟨x,hx⟩: ∃x,((us++rest).take (i+1)++us.drop i++(us++rest).drop (i+1+(us.drop i).length))[i+0]?=some x:=⟨_,aA (by rw[l1];omega)⟩;rw[L1.c _ x hx];rfl) (fun j hj=>by simp at hj;subst hj;exact L1.f _ (by rw[l1];omega)) (fun v hv=>by simp at hv;subst hv;exact hu1)
 have FIN:Hid (wO B (.slice (some ⟨g,0,none⟩) n k) us i u w (.returned (.slice (some ⟨g,0,none⟩) (n+1) k)) (W1.setCells g i [u])):=by
  have R2:=R1.sets [u] i (by rw[l1];simp;omega);have hlen:(((us++rest).take (i+1)++us.drop i++(us++rest).drop (i+1+(us.drop i).length)).take i++[u]++((us++rest).take (i+1)++us.drop i++(us++rest).drop (i+1+(us.drop i).length)).drop (i+[u].length)).length=k:=by simp only[aW,bD,bY,cB] at l1 ⊢;omega
  have ow:=R2.own hBg (n:=n+1) (by rw[hlen];omega) (by rw[hlen];exact hm);rw[hlen] at ow;have e2:=Vl (u:=u) (jK hi) hr1;rw[←hn] at e2;rw[e2] at ow;refine⟨some ⟨g,0,none⟩,k,by rw[hn],by rw[←hn];exact ow,?_,fun y hy=>.inl (by simpa[jS,Value.ownBlock] using hy)⟩;rw[hW1];exact ou _ _ (ou _ _ (Keep.refl _ _).drew (.inl (by simp[jS,Value.ownBlock]))) (.inl (by simp[jS,Value.ownBlock]))
 have hin:(i:Int)<(n:Int):=om;have hi0:(0:Int)≤(i:Int):=om;have hz2: ¬((i:Int)=(n:Int)):=om;have hroom: ¬((k:Int)<(n:Int)+1):=om;have hw1:IntKind.i64.wrap ((i:Int)+1)=(i:Int)+1:=aY _ om;have htn:((i:Int)+1).toNat=i+1:=om;have hb1:(0:Int)≤(i:Int)+1:=om;have hb2: ¬(k=i+1):=om;have hb3: ¬(k=i):=om;have hb4:(i:Int)+1≤(n:Int)+1:=om;have hb5:(i:Int)≤(n:Int)+1:=om;have hl':n≤2000:=om;have hi':i≤n:=om;have HN:=ah hn;rw[←hn];unfold maxLen at hm;have mixed:prog.follows .mixedOrders=true:=kR;clear hR LR R1 L1 V1 hsp hfz hv hdl l1 hk hn hi hl;rw[←hW1] at hcp1;clear hW1;go_in
 go_wp2_with (simp only[hov]);go_region_law (refine step_copy_runI rfl _ _ 184 184 rfl _ _ (by simp[Act.eval,Act.put]) (by simp[Act.eval,Act.put]) (hcp1 _ _ _) ?_)
 go_wp2_with (at_builtin;refine wpList_copy_runI _ rfl _ _ 184 184 rfl _ _ rfl rfl (hcp2 _ _) ?_);go_ret;exact FIN.out
theorem ins_grow {B:Nat} (g i:Nat) (us:List Value) (u:Value) (vb:Nat) (w:World) (hR:Row1 w g 211 us) (hB:B≤w.heap.size) (hi:i<us.length) (h1: ∀x∈us,x.oneCell'=true) (hu1:u.oneCell'=true) (hl:us.length≤2000) (hv:Row1 w vb 211 [u]) (hne:vb≠g):
 Calls prog 139 #[.slice (some ⟨g,0,none⟩) us.length us.length,.int .i64 i,.slice (some ⟨vb,0,none⟩) 1 1] w (wO B (.slice (some ⟨g,0,none⟩) us.length us.length) us i u w):=by
 obtain⟨n,hn⟩:=eY us.length;have hdl:(us.drop i).length=n-i:=by rw[bY,hn]
 have htl:(us.take i).length=i:=by rw[bD];omega
 have LR:=hR.loc;have hbw:g<w.heap.size:=hR.lt;have hvw:vb<w.heap.size:=hv.lt;obtain⟨i0,hi0,hz0,hzs,hzb⟩:=info_parts (P:=prog) (e:=211) (z:=.pointer none) (size:=1) (bytes:=8) kR;have hkk:(n:Int)+1-(i:Int)=((n+1-i:Nat):Int):=om;have hik:i+(n+1-i)=n+1:=om;have hold:(Builtin.firstCells i0.size i (.slice (some ⟨g,0,none⟩) i n)).run prog w.drew= .ok (us.take i).toArray w.drew:=by
  rw[hzs];exact run_firstCells_some w.drew 1 i ⟨g,0,none⟩ i n (us.take i) (by rw[htl];omega) (fun j v hj=>by
   rw[addr_add,bK];rw[fC] at hj;split at hj
   ·exact LR.c j v hj
   ·cases hj)
 have hrz: ∀ty,(Builtin.append_ #[184,3] ty #[.slice (some ⟨g,0,none⟩) i n,.int .i64 ((n:Int)+1-(i:Int))]).run prog w=
  .ok (.slice (some ⟨w.heap.size,0,none⟩) (n+1) (grownCap w (n+1) n 211)) (w.drew.alloc (.cells ((us.take i).toArray++Builtin.zeroCells (Value.pointer none).cells (n+1-i)++Builtin.zeroCells (Value.pointer none).cells (grownCap w (n+1) n 211-(n+1))) 211)):=fun ty=>by
  have h:=Lib.run_append_grow_zeros w 184 3 ty 211 i0 _ .i64 .i64 fP bB hi0 hz0 (some ⟨g,0,none⟩) i n (us.take i) hold (n+1-i) om om om om (by rw[hzb];omega) (by rw[hzb,hik];exact growslice_fits om om);rw[hik] at h;rw[hkk];exact h
 obtain⟨G,hG⟩:=eY (grownCap w (n+1) n 211);obtain⟨ROW,hROW⟩: ∃ROW:Array Value,ROW=(us.take i).toArray++Builtin.zeroCells (Value.pointer none).cells (n+1-i)++Builtin.zeroCells (Value.pointer none).cells (G-(n+1)):=⟨_,rfl⟩;rw[←hG] at hrz;rw[←hROW] at hrz;have hGn:n+1≤G:=by rw[hG];exact grownCap_ge w _ _ _
 have hGm:G≤maxLen:=by rw[hG];exact grownCap_le_maxLen w (n+1) n 211 (by unfold maxLen;omega)
 have hRl:ROW.toList.length=G:=by
  rw[hROW];simp[Builtin.zeroCells,Value.cells];omega
 have hRt:ROW.toList.take i=us.take i:=by
  rw[hROW];simp only[Array.toList_append,bT];rw[cK (by rw[bD];omega)];simp[List.take_take]
 obtain⟨W1,hW1⟩:=eY (w.drew.alloc (.cells ROW 211));rw[←hW1] at hrz;have R1:Row1 W1 w.heap.size 211 ROW.toList:=⟨ROW,by rw[hW1];exact World.alloc_heap_new w.drew _,rfl⟩;have K1:Keep [] w W1:=by rw[hW1];exact(Keep.refl [] w).drew.alloc _
 have V1:Row1 W1 vb 211 [u]:=hv.keep K1 sI;have Q1:Row1 W1 g 211 us:=hR.keep K1 sI;have D1: ∀(W:World) (b:Nat) (cs:List Value),W.heap=W1.heap→Row1 W1 b 211 cs→Row1 W b 211 cs:=fun W b cs e h=>by
  obtain⟨cur,h1,h2⟩:=h;exact⟨cur,by rw[e];exact h1,h2⟩
 have hcpA: ∀(W:World),W.heap=W1.heap→∀ty dc,(Builtin.copy_ #[184,184] ty #[.slice (some ⟨w.heap.size,i,none⟩) (n+1-i) dc,.slice (some ⟨vb,0,none⟩) 1 1]).run prog W= .ok (goInt [u].length) (W.setCells w.heap.size i [u]):=fun W hW ty dc=>
  run_copy_cells W _ _ ty 211 w.heap.size i (n+1-i) dc ⟨vb,0,none⟩ 1 1 [u] fP yM (by simp only[Nat.min_def,cB];split<;>omega)
   (fun j v hj=>by rw[addr_add,bK];exact(D1 W _ _ hW V1).loc.c j v hj)
   (fun j hj=>by
     simp at hj;subst hj;obtain⟨x,hx⟩: ∃x,ROW.toList[i+0]?=some x:=⟨_,aA (by rw[hRl];omega)⟩;rw[(D1 W _ _ hW R1).loc.c _ x hx];rfl) (fun j hj=>by simp at hj;subst hj;exact(D1 W _ _ hW R1).loc.f _ (by rw[hRl];omega)) (fun v hv=>by simp at hv;subst hv;exact hu1)
 obtain⟨W2,hW2⟩:=eY (W1.drew.setCells w.heap.size i [u]);have R2:=R1.drew.sets [u] i (by rw[hRl];simp;omega);rw[←hW2] at R2;have l2:(ROW.toList.take i++[u]++ROW.toList.drop (i+[u].length)).length=G:=by simp only[aW,bD,bY,cB];omega
 have Q2:Row1 W2 g 211 us:=by rw[hW2];exact Q1.drew.keep (ou (g:=w.heap.size) (S:=[w.heap.size]) _ _ (Keep.refl _ _) (.inl sI)) (by simp;omega)
 have D2: ∀(W:World) (b:Nat) (cs:List Value),W.heap=W2.heap→Row1 W2 b 211 cs→Row1 W b 211 cs:=fun W b cs e h=>by
  obtain⟨cur,h1,h2⟩:=h;exact⟨cur,by rw[e];exact h1,h2⟩
 have hcpB: ∀(W:World),W.heap=W2.heap→∀ty dc sc,(Builtin.copy_ #[184,184] ty #[.slice (some ⟨w.heap.size,i+1,none⟩) (n-i) dc,.slice (some ⟨g,i,none⟩) (n-i) sc]).run prog W= .ok (goInt (us.drop i).length) (W.setCells w.heap.size (i+1) (us.drop i)):=fun W hW ty dc sc=>
  run_copy_cells W _ _ ty 211 w.heap.size (i+1) (n-i) dc ⟨g,i,none⟩ (n-i) sc (us.drop i) fP yM (by rw[hdl];simp only[Nat.min_def];split<;>omega)
   (fun j v hj=>by
     rw[addr_add];exact(D2 W _ _ hW Q2).loc.c (i+j) v (by rwa [cO] at hj))
   (fun j hj=>by
     rw[hdl] at hj;obtain⟨x,hx⟩: ∃x,(ROW.toList.take i++[u]++ROW.toList.drop (i+[u].length))[i+1+j]?=some x:=⟨_,aA (by rw[l2];omega)⟩;rw[(D2 W _ _ hW R2).loc.c _ x hx];rfl)
   (fun j hj=>(D2 W _ _ hW R2).loc.f _ (by rw[hdl] at hj;rw[l2];omega)) (fun v hv=>h1 v (fV hv))
 have K2:Keep [] w W2:=by rw[hW2];exact ou _ _ K1.drew (.inr (aI _))
 have FIN:Hid (∀W:World,W.heap=W2.heap→Keep [] w W→wO B (.slice (some ⟨g,0,none⟩) n n) us i u w (.returned (.slice (some ⟨w.heap.size,0,none⟩) (n+1) G)) (W.setCells w.heap.size (i+1) (us.drop i))):=fun W hW hWK=>by
  have R3:=(D2 W _ _ hW R2).sets (us.drop i) (i+1) (by rw[hdl,l2];omega);have hlen:((ROW.toList.take i++[u]++ROW.toList.drop (i+[u].length)).take (i+1)++us.drop i++(ROW.toList.take i++[u]++ROW.toList.drop (i+[u].length)).drop (i+1+(us.drop i).length)).length=G:=by simp only[aW,bD,bY,cB] at l2 hdl ⊢;omega
  have ow:=R3.own hB (n:=n+1) (by rw[hlen];exact hGn) (by rw[hlen];exact hGm);rw[hlen] at ow;have e2:=Vk (u:=u) (rl:=ROW.toList) (jK hi) (by rw[hRl,←hn];exact hGn) hRt;rw[←hn] at e2;rw[show(ROW.toList.take i++[u]++ROW.toList.drop (i+[u].length))=(ROW.toList.take i++[u]++ROW.toList.drop (i+1)) from rfl] at ow;rw[e2] at ow;have K3:Keep [] w (W.setCells w.heap.size (i+1) (us.drop i)):=ou _ _ hWK (.inr (aI _));refine⟨some ⟨w.heap.size,0,none⟩,G,by rw[←hn],by rw[←hn];exact ow,K3.wide,fun y hy=>.inr (by simp[jS,Value.ownBlock] at hy;omega)⟩
 have HW2:=ah hW2;have HK2:=ah K2;have mixed:prog.follows .mixedOrders=true:=kR;have hin:(i:Int)<(n:Int):=om;have hi0:(0:Int)≤(i:Int):=om;have hz2: ¬((i:Int)=(n:Int)):=om;have hroom:(n:Int)<(n:Int)+1:=om;have hw1:IntKind.i64.wrap ((i:Int)+1)=(i:Int)+1:=aY _ om;have htn:((i:Int)+1).toNat=i+1:=om;have hb1:(0:Int)≤(i:Int)+1:=om;have hGi: ¬(G=i):=om;have hGim: ¬(G=i+1):=om;have hci: ¬(n=i):=om;have hb3:(i:Int)≤(n:Int):=om;have hG63:G≤9223372036854775807:=by unfold maxLen at hGm;omega
 have hl':n≤2000:=om;have hi':i≤n:=om;rw[←hn];clear hR hkk hik hold hROW hG hRl hRt R1 K1 V1 Q1 D1 R2 l2 Q2 D2 K2 hW2 hW1 hGm hdl htl LR hv hn hi hl;go_in
 go_wp2_with (first
  |(at_builtin;refine Lib.wpList_append_run _ rfl _ _ _ _ rfl _ _ rfl rfl _ _ (hrz _) ?_)
  |(at_builtin;refine wpList_copy_runI _ rfl _ _ 184 184 rfl _ _ rfl rfl (hcpA _ rfl _ _) ?_)
  |(at_builtin;refine wpList_copy_runI _ rfl _ _ 184 184 rfl _ _ rfl rfl (hcpB _ (by rw[HW2.out];rfl) _ _ _) ?_))
 go_region_law (refine step_copy_runI rfl _ _ 184 184 rfl (.slice (some ⟨w.heap.size,i+1,none⟩) (n-i) (G-(i+1))) (.slice (some ⟨g,i,none⟩) (n-i) (n-i)) (by simp[Act.eval,Act.put]) (by simp[Act.eval,Act.put]) (hcpB _ (by rw[HW2.out];rfl) 3 (G-(i+1)) (n-i)) ?_)
 go_wp2;go_ret;exact FIN.out _ (by rw[HW2.out];rfl) (by have q:=HK2.out;rw[HW2.out] at q;first|exact q|exact q.drew)
theorem sins_ok {B:Nat} (v:Value) (i:Nat) (us:List Value) (u:Value) (vb:Nat) (w:World) (hown:w.ownsRow B 211 1 v us.length us) (hi:i≤us.length) (h1: ∀x∈us,x.oneCell'=true) (hu1:u.oneCell'=true) (hl:us.length≤2000) (hv:Row1 w vb 211 [u]) (hne:vb∉jS v) (hB:B≤w.heap.size):
 Calls prog 139 #[v,.int .i64 i,.slice (some ⟨vb,0,none⟩) 1 1] w (wO B v us i u w):=by
 by_cases e:i=us.length
 ·subst e
  exact ins_end v us u vb w hown hu1 hl hv.loc hB
 ·have ho:=hown
  rcases hown.2 with⟨rfl,h3⟩|⟨g,cap,cur,rfl,hg,hh,hcap,hmax,_⟩
  ·omega
  ·obtain⟨rest,R,r1,r2,r3,r4,r5⟩:=Au ho
   have hne':vb≠g:=fun q=>hne (by rw[o7,q];rfl)
   cases rest with
   |nil=>
    rw[dw] at R r1;obtain rfl:cap=us.length:=r1.symm;exact ins_grow g i us u vb w R hB om h1 hu1 hl hv hne'
   |cons r rs=>exact ins_room g cap i us (r::rs) u vb w R r1 r4 r5 sI om h1 hu1 hl hv hne'
end
section
variable {B:Nat} {ev:Nat→Addr} {pc pz e:Nat} {mn lw hi:Int} {O:List (List Int)} {X:List Nat} {vs:Value} {A:SA} {c:Ca} {w:World}
theorem Ht (n oa:Int) (h:CS B w pc pz mn lw hi O e X vs A c) (hI:uR e c) (o1: -9223372036854775808≤oa) (o2:oa≤9223372036854775807) (m:Nat) (hm:m≤c.C.length) (hno: ∀j s,j<m→c.C[j]?=some s→Jc e (n,oa) s=false) (res:Value) (k:Nat)
 (hres:(m=c.C.length∧res= .pointer none∧k=0)∨(∃s p,c.C[m]?=some s∧A[m]?=some p∧Jc e (n,oa) s=true∧res= .pointer (some ⟨p.1,0,none⟩)∧k=kOf e (n,oa) s)):
 Calls prog 154 #[.pointer (some ⟨pc,0,none⟩),.agg #[.int .i64 n,.int .i64 oa]] w fun r w'=>r= .returned (.tuple #[res,.int .i64 k])∧Below w.heap.size w w':=by
 obtain⟨qv,kv,evs,kv1,kv2,hrow⟩:=h.ch.form;subst evs;have e1:=hI.e1;have e2:=hI.e2;have few:=hI.few;have HIN:=ah hI;have b0:Below w.heap.size w (w.alloc (.cells #[.int .i64 n,.int .i64 oa] 40)):=jY;have HL:=ah (show jR (w.alloc (.cells #[.int .i64 n,.int .i64 oa] 40)) w.heap.size [.int .i64 n,.int .i64 oa] from jR.mk_ w [.int .i64 n,.int .i64 oa] 40 rfl);have D6:=ah hrow;have HC:=ah h.ch;have HB0:=ah b0;have Vs:=ah hno;have Hu:=ah hres;have c1:=h.ch.c.gC 1;have c2:=h.ch.c.gC 2;have cl:=h.ch.c.lt;obtain⟨nn,hnn⟩:=eY c.C.length;have EN:=ah hnn;rw[←hnn] at c2 few kv1 hm;unfold maxLen at kv2;have en0: ¬((e:Int)=0):=om;have en1: ¬(e=0):=om;clear h hI hrow hnn b0 hno hres;go_in
 go_wp2_with fail;go_loopw [14] (fun iv wr=>∃i:Nat,i≤m∧iv= .int .i64 i∧Below w.heap.size (w.alloc (.cells #[.int .i64 n,.int .i64 oa] 40)) wr∧Below w.heap.size w wr∧Hid (jR wr w.heap.size [.int .i64 n,.int .i64 oa])) (fun iv _=>nn-(intOf iv).toNat);case atStart=>exact⟨0,om,by go_num,aL _ _,HB0.out,HL⟩
 case round=>
  obtain⟨i,hile,rfl,hbel0,hbel,HLr⟩:=hrel;have BW:Hid (∀W,Below wr.heap.size wr W→Below w.heap.size (w.alloc (.cells #[.int .i64 n,.int .i64 oa] 40)) W∧Below w.heap.size w W∧Hid (jR W w.heap.size [.int .i64 n,.int .i64 oa])):=fun W b=>⟨hbel0.trans (b.mono hbel.size),hbel.trans (b.mono hbel.size),HLr.out.go b⟩
  have m0:=HLr.out.gC 0;have m1:=HLr.out.gC 1;have ml:=HLr.out.lt;have g1:wr.cell? ⟨pc,1,none⟩=some (.int .i64 e):=(hbel.cell (p:=⟨pc,1,none⟩) cl).trans c1;have gl0:pc<wr.heap.size:=aC cl hbel.size;by_cases hin:i<nn
  ·obtain⟨s,hs⟩: ∃s,c.C[i]?=some s:=⟨c.C[i]'(by rw[←EN.out];exact hin),aA _⟩
   obtain⟨p,hp,hsl,_⟩:=(HC.out.below hbel).at hs;obtain⟨g,rfl,hg,hc0⟩:=D6.out i p hp;have ck:wr.cell? ⟨g,i,none⟩=some (.pointer (some ⟨p.1,0,none⟩)):=(hbel.cell (p:=⟨g,i,none⟩) hg).trans hc0;have gl:g<wr.heap.size:=aC hg hbel.size;have hik:i<kv:=om;obtain⟨d0,d1,_,d3,d4,dl,dl2⟩:=hsl.cells;have hsm:=aF hs;obtain⟨r1,r2,r3,r4⟩:=HIN.out.rng hsm;have hl64:s.T.length≤64:=by rw[HIN.out.len s hsm];unfold kL;exact dW _ _
   have hW:=hasS_W e1 e2 (n:=n) o1 o2 r3 r4 hl64;obtain⟨f1,f2⟩:=offW_fit oa s.pg;have qW:=fun h=>quo_W (oa:=oa) (pg:=s.pg) e1 h
   have KW:=ah (kOf_W (n:=n) e1 e2 o1 o2 r3 r4 hl64);have TB:=ah (fun(j:Nat) (b:Bool) (hj:s.T[j]?=some b)=>hsl.2.c j _ (oq hj));have hd:wrap64 (oa-s.pg*64)=uQ oa s.pg:=by unfold uQ;rw[IntWalk.i64_left]
   have qb:uQ oa s.pg / (e:Int)≤9223372036854775807∨uQ oa s.pg<0:=by
    by_cases q:uQ oa s.pg<0
    ·exact .inr q
    ·left
     have:uQ oa s.pg / (e:Int)≤uQ oa s.pg:=Int.ediv_le_self _ om;omega
   have NO:Jc e (n,oa) s=false→i+1≤m:=fun hf=>by
    rcases dU i m with q|q
    ·exact q
    ·exfalso
     obtain rfl:i=m:=om;rcases Hu.out with⟨t,_⟩|⟨s',p',t1,_,t2,_⟩
     ·have:=EN.out;omega
     ·rw[hs] at t1;obtain rfl:=aO t1
      rw[hf] at t2;cases t2
   have YES:Jc e (n,oa) s=true→res= .pointer (some ⟨p.1,0,none⟩)∧k=kOf e (n,oa) s:=fun ht=>by
    rcases dU i m with q|q
    ·have:=Vs.out i s q hs
     rw[ht] at this;cases this
    ·obtain rfl:i=m:=by omega
     rcases Hu.out with⟨t,_⟩|⟨s',p',t1,t3,_,t4,t5⟩
     ·have:=EN.out;omega
     ·rw[hs] at t1;obtain rfl:=aO t1
      rw[hp] at t3;obtain rfl:=aO t3;exact⟨t4,t5⟩
   clear hc0;by_cases h1:s.nd=n
   ·have b1:(s.nd==n)=true:=by simp[h1]
    have b1':decide (s.nd=n)=true:=by simp[h1]
    by_cases h2:0≤uQ oa s.pg
    ·have b2:decide (0≤uQ oa s.pg)=true:=dQt h2
     obtain⟨v1,v2⟩:=qW h2;have m1':0≤uQ oa s.pg % (e:Int):=Int.emod_nonneg _ om;have m2':uQ oa s.pg % (e:Int)<e:=Int.emod_lt_of_pos _ om;have qn:(zw e oa s.pg:Int)=uQ oa s.pg / (e:Int):=by rw[←v1,fI h2]
     have nb:(zw e oa s.pg:Int)≤9223372036854775807:=by rw[qn];omega
     have qn':=qn.symm;clear qn;have hwq:IntKind.i64.wrap ((zw e oa s.pg:Nat):Int)=(zw e oa s.pg:Int):=aY _ om;by_cases h3:uQ oa s.pg % (e:Int)=0
     ·have b3:decide (uQ oa s.pg % (e:Int)=0)=true:=dQt h3
      by_cases h4:zw e oa s.pg<s.T.length
      ·have b4:decide (zw e oa s.pg<s.T.length)=true:=dQt h4
       have b4':decide ((zw e oa s.pg:Int)<(s.T.length:Int))=true:=dQt om;obtain⟨bt,hbt⟩: ∃bt,s.T[zw e oa s.pg]?=some bt:=⟨s.T[zw e oa s.pg],aA h4⟩;have ct:=TB.out _ _ hbt;have hW5:Jc e (n,oa) s=bt:=by rw[hW,b1',b2,b3,b4,hbt];cases bt<;>rfl
       cases bt with
       |true=>
        obtain⟨y1,y2⟩:=YES hW5;have y3:=KW.out hW5;rw[←y3] at y2;clear y3 hW NO YES KW qW hs hp hsl hbt qb Vs Hu hsm;generalize hdd:uQ oa s.pg=d at*
        generalize zw e oa s.pg=q at*
        generalize d % (e:Int)=rr at*
        generalize s.T.length=l at*
        subst y1 y2;go_wp2_with fail;go_quiet (fail);go_wp2_with fail;go_quiet (fail);go_wp2_with fail;go_quiet (fail);go_wp2;go_ret2
        exact⟨rfl,(BW.out _ jY).2.1⟩
       |false=>
        have HNO:=ah (NO hW5);clear hW NO YES KW qW hbt qb Vs Hu hsm;generalize hdd:uQ oa s.pg=d at*
        generalize zw e oa s.pg=q at*
        generalize d % (e:Int)=rr at*
        generalize s.T.length=l at*
        clear hs hp hsl;go_wp2_with fail;go_quiet (fail);go_wp2_with fail;go_quiet (fail);go_wp2;go_round
        case rel=>exact⟨i+1,HNO.out,by go_num,BW.out _ jY⟩
        case measure=>simp[intOf];omega
      ·have b4:decide (zw e oa s.pg<s.T.length)=false:=dQf h4
       have b4':decide ((zw e oa s.pg:Int)<(s.T.length:Int))=false:=dQf om;have HNO:=ah (NO (by rw[hW,b4];simp));clear hW NO YES KW qW qb Vs Hu hsm;generalize hdd:uQ oa s.pg=d at*
       generalize zw e oa s.pg=q at*
       generalize d % (e:Int)=rr at*
       generalize s.T.length=l at*
       clear hs hp hsl;go_wp2_with fail;go_quiet (fail);go_wp2_with fail;go_quiet (fail);go_wp2;go_round
       case rel=>exact⟨i+1,HNO.out,by go_num,BW.out _ jY⟩
       case measure=>simp[intOf];omega
     ·have b3:decide (uQ oa s.pg % (e:Int)=0)=false:=dQf h3
      have b3':(uQ oa s.pg % (e:Int)==0)=false:=by simpa using h3
      have HNO:=ah (NO (by rw[hW,b3];simp));clear hW NO YES KW qW qb Vs Hu hsm v1 qn' nb hwq;generalize hdd:uQ oa s.pg=d at*
      generalize d % (e:Int)=rr at*
      clear hs hp hsl;go_wp2_with fail;go_quiet (fail);go_wp2_with fail;go_quiet (fail);go_wp2;go_round
      case rel=>exact⟨i+1,HNO.out,by go_num,BW.out _ jY⟩
      case measure=>simp[intOf];omega
    ·have b2:decide (0≤uQ oa s.pg)=false:=dQf h2
     have HNO:=ah (NO (by rw[hW,b2];simp));clear hW NO YES KW qW qb Vs Hu hsm;generalize hdd:uQ oa s.pg=d at*
     clear hs hp hsl;go_wp2_with fail;go_quiet (fail);go_wp2_with fail;go_quiet (fail);go_wp2;go_round
     case rel=>exact⟨i+1,HNO.out,by go_num,BW.out _ jY⟩
     case measure=>simp[intOf];omega
   ·have b1:(s.nd==n)=false:=by simp[h1]
    have b1':decide (s.nd=n)=false:=by simp[h1]
    have HNO:=ah (NO (by rw[hW,b1'];simp));clear hW NO YES KW qW qb Vs Hu hsm;generalize hdd:uQ oa s.pg=d at*
    clear hs hp hsl;go_wp2_with fail;go_quiet (fail);go_wp2_with fail;go_quiet (fail);go_wp2;go_round
    case rel=>exact⟨i+1,HNO.out,by go_num,BW.out _ jY⟩
    case measure=>simp[intOf];omega
  ·have RS:res= .pointer none∧k=0:=by
    rcases Hu.out with⟨_,t1,t2⟩|⟨s',p',t1,_⟩
    ·exact⟨t1,t2⟩
    ·have:=(au.1 t1).1
     have:=EN.out;omega
   obtain⟨rfl,rfl⟩:=RS;obtain rfl:i=nn:=om;go_wp2;go_ret2
   exact⟨rfl,(BW.out _ (aL _ _)).2.1⟩
theorem Vt (n oa:Int) (h:CS B w pc pz mn lw hi O e X vs A c) (hI:uR e c) (o1: -9223372036854775808≤oa) (o2:oa≤9223372036854775807) {i:Nat} (hf:H7 e (n,oa) c.C=some i) {s:Sl} {p:Nat×Nat} (hs:c.C[i]?=some s) (hp:A[i]?=some p):
 Calls prog 154 #[.pointer (some ⟨pc,0,none⟩),.agg #[.int .i64 n,.int .i64 oa]] w fun r w'=>r= .returned (.tuple #[.pointer (some ⟨p.1,0,none⟩),.int .i64 (kOf e (n,oa) s)])∧Below w.heap.size w w':=by
 obtain⟨z,hz,hh,hn⟩:=zI hf;rw[hs] at hz;obtain rfl:=aO hz;exact Ht n oa h hI o1 o2 i (jK (au.1 hs).1) hn _ _ (.inr ⟨s,p,hs,hp,hh,rfl,rfl⟩)
theorem Vu (n oa:Int) (h:CS B w pc pz mn lw hi O e X vs A c) (hI:uR e c) (o1: -9223372036854775808≤oa) (o2:oa≤9223372036854775807) (hf:H7 e (n,oa) c.C=none):
 Calls prog 154 #[.pointer (some ⟨pc,0,none⟩),.agg #[.int .i64 n,.int .i64 oa]] w fun r w'=>r= .returned (.tuple #[.pointer none,.int .i64 (0:Nat)])∧Below w.heap.size w w':=
 Ht n oa h hI o1 o2 c.C.length (aI _) (fun j s _ hs=>Ei hf s (aF hs)) _ _ (.inl ⟨rfl,rfl,rfl⟩)
end
