/- Lemmas and contracts for the claim's last text: Mem, SRow. -/
import Derived.Test.YtehhldljdakgeaaGreatDoorQa01
import Derived.Test.YtehhldljdakgeaaGreatDoorQa04
set_option linter.unusedSimpArgs false
set_option linter.unusedVariables false
set_option maxHeartbeats 16000000
set_option maxRecDepth 100000
namespace Go.Proofs.YtehhldljdakgeaaGreatDoor
open Go.RowKit Go.Maps
attribute [local go_sem ↓] aJ aK
def zP (w:World) (g:Nat) (l:List (Int×Int)):Prop:=
 ∀j a k,l[j]?=some (a,k)→(w.cell? ⟨g,j*2,none⟩=some (.int .i64 a)∧w.cell? ⟨g,j*2+1,none⟩=some (.int .i64 k))∧w.frozen? ⟨g,j*2,none⟩=false∧w.frozen? ⟨g,j*2+1,none⟩=false
theorem uN {w:World} {g:Nat} {cur:Array Value} {e:TypeId} (h:w.heap[g]?=some (.cells cur e (0,0))) (o:Nat):w.frozen? ⟨g,o,none⟩=false:=by
 simp[World.frozen?,h]
theorem Ns.mrow {w w':World} {v:Value} {l:List (Int×Int)} (h:Ns w w' v l):
 (v= .slice none 0 0∧l=[])∨∃g cap,v= .slice (some ⟨g,0,none⟩) l.length cap∧w.heap.size≤g∧g<w'.heap.size∧l.length≤cap∧zP w' g l:=by
 obtain⟨ho,_⟩:=h;have ho':=ho;obtain⟨_,h2⟩:=ho;rcases h2 with⟨rfl,h3⟩|⟨g,cap,cur,rfl,hg,hh,hcap,_⟩
 ·refine .inl ⟨rfl,?_⟩
  cases l with
  |nil=>rfl
  |cons b r=>simp at h3
 ·refine .inr ⟨g,cap,rfl,hg,(ho'.lt g rfl).2,hcap,fun j a k hj=> ?_⟩
  have hlt:j<l.length:=(au.1 hj).1;obtain⟨e1,e2⟩:=u6 l j a k hj;refine⟨?_,uN hh _,uN hh _⟩;rw[ho'.cellAt (j*2) om,ho'.cellAt (j*2+1) om];exact⟨e1,e2⟩
theorem zP.keep {S:List Nat} {w w':World} {g:Nat} {l:List (Int×Int)} (h:zP w g l) (k:Keep S w w') (hg:g<w.heap.size) (hn:g∉S):zP w' g l:=fun j a b hj=>by
 rw[k.cell hg hn,k.cell hg hn,k.frozen hg hn,k.frozen hg hn];exact h j a b hj
theorem jM {w:World} {g o o':Nat} (u:Value) (h:o≠o'):(w.setCell ⟨g,o,none⟩ u).cell? ⟨g,o',none⟩=w.cell? ⟨g,o',none⟩:=by
 simp only[World.cell?,World.setCell,gq];simp;cases w.heap[g]? with
 |none=>rfl
 |some ob=>cases ob<;>simp[h]
theorem sM {w:World} {g o b o':Nat} (u:Value) (h:g≠b):(w.setCell ⟨g,o,none⟩ u).cell? ⟨b,o',none⟩=w.cell? ⟨b,o',none⟩:=by
 simp only[World.cell?,World.setCell,gq,if_neg h]
theorem jY {w:World} {g o:Nat} {x:Value} (u:Value) (h:w.cell? ⟨g,o,none⟩=some x):(w.setCell ⟨g,o,none⟩ u).cell? ⟨g,o,none⟩=some u:=by
 simp only[World.cell?,World.setCell,gq] at*
 cases e:w.heap[g]? with
 |none=>rw[e] at h;simp at h
 |some ob=>
  rw[e] at h;cases ob with
  |cells cs t r=>
   simp at h ⊢;have:o<cs.size:=by
    rcases dV o cs.size with q|q
    ·exact q
    ·rw[fu q] at h;cases h
   simp[this]
  |_=>simp at h
theorem jX {w:World} {g o:Nat} (u:Value) (b o':Nat):(w.setCell ⟨g,o,none⟩ u).frozen? ⟨b,o',none⟩=w.frozen? ⟨b,o',none⟩:=by
 simp only[World.frozen?,World.setCell,gq];by_cases h:g=b
 ·subst h
  simp;cases w.heap[g]? with
  |none=>rfl
  |some ob=>cases ob<;>simp
 ·simp[h]
theorem zP.set {w:World} {g:Nat} {l:List (Int×Int)} (h:zP w g l) {i:Nat} (hi:i<l.length) (a k:Int):
 zP ((w.setCell ⟨g,i*2,none⟩ (.int .i64 a)).setCell ⟨g,i*2+1,none⟩ (.int .i64 k)) g (l.set i (a,k)):=by
 intro j x y hj;obtain⟨x0,hx0⟩: ∃p,l[i]?=some p:=⟨l[i],aA _⟩;obtain⟨p0,p1⟩:=x0;obtain⟨⟨q1,q2⟩,q3,q4⟩:=h i p0 p1 hx0;by_cases e:i=j
 ·subst e
  rw[aY hi] at hj;simp at hj;obtain⟨rfl,rfl⟩:=hj;refine⟨⟨?_,?_⟩,?_,?_⟩
  ·rw[jM _ om,jY _ q1]
  ·rw[jY (x:=.int .i64 p1) _ (by rw[jM _ om];exact q2)]
  ·rw[jX,jX];exact q3
  ·rw[jX,jX];exact q4
 ·rw[bL e] at hj
  obtain⟨⟨r1,r2⟩,r3,r4⟩:=h j x y hj;refine⟨⟨?_,?_⟩,?_,?_⟩
  ·rw[jM _ om,jM _ om];exact r1
  ·rw[jM _ om,jM _ om];exact r2
  ·rw[jX,jX];exact r3
  ·rw[jX,jX];exact r4
structure sN (p:Int×Int→Bool) (F:List (Int×Int)) (i j:Nat) (L:List (Int×Int)):Prop where
 len:L.length=F.length
 lt:i<j
 le:j≤F.length
 low:L.take i=(F.take j).filter fun x=> !p x
 high:L.drop j=F.drop j
theorem sN.start {p:Int×Int→Bool} {F:List (Int×Int)} {i:Nat} {z:Int×Int} (hz:F[i]?=some z) (hp:p z=true) (hall: ∀x∈F.take i,p x=false):sN p F i (i+1) F:=by
 refine⟨rfl,om,(au.1 hz).1,?_,rfl⟩;rw[bT,hz,iQ];simp[hp];exact(dR.2 fun x hx=>by simp[hall x hx]).symm
theorem sN.at {p:Int×Int→Bool} {F L:List (Int×Int)} {i j:Nat} (h:sN p F i j L) (m:Nat) (hm:j≤m):L[m]?=F[m]?:=by
 have:=congrArg (fun l=>l[m-j]?) h.high;simp only[cK] at this;rwa [show j+(m-j)=m by omega] at this
theorem sN.skip {p:Int×Int→Bool} {F L:List (Int×Int)} {i j:Nat} {z:Int×Int} (h:sN p F i j L) (hz:F[j]?=some z) (hp:p z=true):sN p F i (j+1) L:=by
 have hl:=h.len;have hj:=(au.1 hz).1;have hlt:=h.lt;refine⟨hl,om,om,?_,?_⟩
 ·rw[bT,hz,iQ,←h.low];simp[hp]
 ·have:=congrArg (List.drop 1) h.high
  simpa[List.drop_drop] using this
theorem sN.keep {p:Int×Int→Bool} {F L:List (Int×Int)} {i j:Nat} {z:Int×Int} (h:sN p F i j L) (hz:F[j]?=some z) (hp:p z=false):sN p F (i+1) (j+1) (L.set i z):=by
 have hl:=h.len;have hj:=(au.1 hz).1;have hlt:=h.lt;refine⟨by simp[hl],om,om,?_,?_⟩
 ·have e1:F.take (j+1)=F.take j++[z]:=by rw[bT,hz];rfl
  have e2:(L.set i z).take (i+1)=L.take i++[z]:=by rw[bT,aY om,List.take_set_of_le (aH _)];rfl
  rw[e1,e2,iQ,←h.low];simp[hp]
 ·rw[List.drop_set_of_lt om]
  have:=congrArg (List.drop 1) h.high;simpa[List.drop_drop] using this
theorem sN.done {p:Int×Int→Bool} {F L:List (Int×Int)} {i:Nat} (h:sN p F i F.length L):L.take i=(F.filter fun x=> !p x)∧i=(F.filter fun x=> !p x).length∧i<L.length:=by
 have h1:=h.low;have h2:=h.lt;have h3:=h.len;rw[bU] at h1;exact⟨h1,by rw[←h1,bC];omega,om⟩
def RowS (base:Nat) (w:World) (v:Value) (l:List (Int×Int)):Prop:=
 ∃p cap,v= .slice p l.length cap∧(l=[]→p=none∧cap=0∨∃g,p=some ⟨g,0,none⟩∧base≤g∧g<w.heap.size)∧
  ∀j a k,l[j]?=some (a,k)→∃g,p=some ⟨g,0,none⟩∧base≤g∧g<w.heap.size∧w.cell? ⟨g,j*2,none⟩=some (.int .i64 a)∧w.cell? ⟨g,j*2+1,none⟩=some (.int .i64 k)
def RowC (w:World) (g:Nat) (l:List (Int×Int)):Prop:=∀j a k,l[j]?=some (a,k)→w.cell? ⟨g,j*2,none⟩=some (.int .i64 a)∧w.cell? ⟨g,j*2+1,none⟩=some (.int .i64 k)
def GJ (base:Nat) (w:World) (v:Value) (l:List (Int×Int)):Prop:=
 (v= .slice none 0 0∧l=[])∨∃g cap,v= .slice (some ⟨g,0,none⟩) l.length cap∧l.length≤cap∧cap≤maxLen∧base≤g∧g<w.heap.size∧RowC w g l
theorem Ns.Qr {w w':World} {v:Value} {l:List (Int×Int)} (h:Ns w w' v l):GJ w.heap.size w' v l:=by
 obtain⟨ho,_⟩:=h;have ho':=ho;obtain⟨_,h2⟩:=ho;rcases h2 with⟨rfl,h3⟩|⟨g,cap,cur,rfl,hg,hh,hcap,hmax,_⟩
 ·refine .inl ⟨rfl,?_⟩
  cases l with
  |nil=>rfl
  |cons b r=>simp at h3
 ·refine .inr ⟨g,cap,rfl,hcap,hmax,hg,(ho'.lt g rfl).2,fun j a k hj=> ?_⟩
  have hlt:j<l.length:=(au.1 hj).1;obtain⟨e1,e2⟩:=u6 l j a k hj;rw[ho'.cellAt (j*2) om,ho'.cellAt (j*2+1) om];exact⟨e1,e2⟩
theorem RowC.keep {S:List Nat} {w w':World} {g:Nat} {l:List (Int×Int)} (h:RowC w g l) (k:Keep S w w') (hg:g<w.heap.size) (hn:g∉S):RowC w' g l:=fun j a b hj=>by
 rw[k.cell hg hn,k.cell hg hn];exact h j a b hj
theorem GJ.keep {S:List Nat} {base:Nat} {w w':World} {v:Value} {l:List (Int×Int)} (h:GJ base w v l) (k:Keep S w w') (hs: ∀s∈S,s<base):GJ base w' v l:=by
 rcases h with h|⟨g,cap,h1,h2,h3,h4,h5,h6⟩
 ·exact .inl h
 ·exact .inr ⟨g,cap,h1,h2,h3,h4,aC h5 k.size,h6.keep k h5 fun q=>by have:=hs g q;omega⟩
theorem GJ.below {base:Nat} {w w':World} {v:Value} {l:List (Int×Int)} (h:GJ base w v l) (k:Below w.heap.size w w'):GJ base w' v l:=h.keep (Keep.of (S:=[]) k) (fun _ q=>by cases q)
theorem GJ.mono {base base':Nat} {w:World} {v:Value} {l:List (Int×Int)} (h:GJ base w v l) (hb:base'≤base):GJ base' w v l:=by
 rcases h with h|⟨g,cap,h1,h2,h3,h4,h5⟩
 ·exact .inl h
 ·exact .inr ⟨g,cap,h1,h2,h3,om,h5⟩
theorem oU (l m:List (Int×Int)):kG (l++m)=kG l++kG m:=by simp[kG]
theorem pI (l:List (Int×Int)): ∀u∈kG l,u.oneCell'=true:=by
 intro u hu;simp only[kG,dY] at hu;obtain⟨x,_,hx⟩:=hu;simp at hx;rcases hx with rfl|rfl<;>rfl
theorem Cq {w:World} {g o:Nat}: ∀{l:List (Int×Int)},(∀j a k,l[j]?=some (a,k)→w.cell? ⟨g,o+j*2,none⟩=some (.int .i64 a)∧w.cell? ⟨g,o+j*2+1,none⟩=some (.int .i64 k))→∀j u,(kG l)[j]?=some u→w.cell? ((⟨g,o,none⟩:Addr).add j)=some u:=by
 intro l h j u hu;have hl:j<(kG l).length:=(au.1 hu).1;rw[kV] at hl;obtain⟨p,hp⟩: ∃p,l[j / 2]?=some p:=⟨l[j / 2]' om,aA _⟩;obtain⟨a,k⟩:=p;obtain⟨e1,e2⟩:=u6 l _ a k hp;obtain⟨h1,h2⟩:=h _ a k hp;have had:(⟨g,o,none⟩:Addr).add j=⟨g,o+j,none⟩:=by
  unfold Addr.add;split
  ·rename_i e;rw[e];rfl
  ·rfl
 rw[had];have:j=j / 2*2∨j=j / 2*2+1:=om;rcases this with e|e
 ·rw[e] at hu ⊢
  rw[e1] at hu;rw[←aI hu];exact h1
 ·rw[e] at hu ⊢
  rw[e2] at hu;rw[←aI hu,←Nat.add_assoc];exact h2
def Src (w:World) (p:Option Addr) (m:List (Int×Int)):Prop:=
 (p=none∧m=[])∨∃g o,p=some ⟨g,o,none⟩∧∀j a k,m[j]?=some (a,k)→w.cell? ⟨g,o+j*2,none⟩=some (.int .i64 a)∧w.cell? ⟨g,o+j*2+1,none⟩=some (.int .i64 k)
theorem SQ {w:World} (ty:TypeId) {base:Nat} {v:Value} {l:List (Int×Int)} (hown:w.ownsRow base 213 2 v l.length (kG l)) {p:Option Addr} {c:Nat} {m:List (Int×Int)} (hs:Src w p m) (hl:l.length+m.length≤65536) (hb:base≤w.heap.size):
 ∃v' w',(Builtin.append_ #[235,235] ty #[v,.slice p m.length c]).run Tryz.prog w= .ok v' w'∧w'.ownsRow base 213 2 v' (l++m).length (kG (l++m))∧w.grownBy w' v.ownBlock:=by
 obtain⟨i0,hi,hz0,hz1,hz2⟩:=info_parts infoB;have ht:=fV;rcases hs with⟨rfl,rfl⟩|⟨g,o,rfl,hc⟩
 ·refine⟨v,w,?_,by simpa using hown,⟨rfl,rfl,rfl,aH _,fun _ _ _=>rfl⟩⟩
  rcases hown.2 with⟨rfl,_⟩|⟨g,cap,cur,rfl,_,_,hnc,_⟩
  ·simp[Builtin.append_,run_underlying ht,sizeOf,typeInfo,hi,Builtin.lenOf,Builtin.firstCells]
  ·simp[Builtin.append_,run_underlying ht,sizeOf,typeInfo,hi,Builtin.lenOf,Builtin.firstCells,hnc,storeCells]
 ·obtain⟨v',w',hrun,h2,h3,_,_⟩:=run_append_own_at (P:=Tryz.prog) w base 235 ty 213 i0 (.agg #[.int .i64 0,.int .i64 0]) 2 16 ht hi hz0 hz1 hz2 rfl om v l.length (kG l) hown ⟨g,o,none⟩ m.length c (kG m)
   (by rw[kV];omega) (Cq hc) (pI m) (by unfold maxLen;omega) om hb
  exact⟨v',w',hrun,by rw[aV,oU];exact h2,h3⟩
theorem lC {base:Nat} {v:Value} {l m:List (Int×Int)} {w:World} {p:Option Addr} {c:Nat} {ops:Array Oper} {rest:List Oper} {o:Oper} {a:Act} {Q:Exit→Act→World→Prop} (hgd:o.guard=none) (s x:Operand)
 (ho:o.op= .call {callee:=.builtin .append,args:=#[s,x],argTypes:=#[235,235]}) (hv:a.eval s=v) (mn:Nat) (hx:a.eval x= .slice p mn c) (hmn:m.length=mn)
 (hown:w.ownsRow base 213 2 v l.length (kG l)) (hs:Src w p m) (hl:l.length+m.length≤65536) (hb:base≤w.heap.size)
 (h: ∀v' w',w'.ownsRow base 213 2 v' (l++m).length (kG (l++m))→w.grownBy w' v.ownBlock→wpList Tryz.prog ops Q rest (a.put o.dst v') w'):wpList Tryz.prog ops Q (o::rest) a w:=by
 subst hmn;refine wpList_plain hgd fun K hK=> ?_
 obtain⟨v',w',hrun,h2,h3⟩:=SQ (w:=w) o.type hown hs hl hb (c:=c);unfold Oper.wp execOp;simp only[ho,resolve,invoke,builtin,fA,fI,dS,dZ,bP,dW,hv,hx,hrun];exact hK _ _ (h v' w' h2 h3)
def nC (X:List Nat) (w:World) (v:Value) (us:List Value):Prop:=
 ∃p cap,v= .slice p us.length cap∧us.length≤cap∧cap≤maxLen∧∀j u,us[j]?=some u→∃g off,p=some ⟨g,off,none⟩∧g∉X∧g<w.heap.size∧w.cell? ⟨g,off+j,none⟩=some u
theorem nC.keep {X S:List Nat} {w w':World} {v:Value} {us:List Value} (h:nC X w v us) (k:Keep S w w') (hs: ∀s∈S,s∈X∨w.heap.size≤s):nC X w' v us:=by
 obtain⟨p,cap,h1,h2,h3,h4⟩:=h;refine⟨p,cap,h1,h2,h3,fun j u hj=> ?_⟩;obtain⟨g,off,e1,e2,e3,e4⟩:=h4 j u hj;exact⟨g,off,e1,e2,aC e3 k.size,(k.cell e3 fun q=>by rcases hs g q with r|r;(·exact e2 r);(·omega)).trans e4⟩
theorem nC.below {X:List Nat} {w w':World} {v:Value} {us:List Value} (h:nC X w v us) (k:Below w.heap.size w w'):nC X w' v us:=h.keep (Keep.of (S:=[]) k) (fun _ q=>by cases q)
theorem nC.more {X Y:List Nat} {w:World} {v:Value} {us:List Value} (h:nC X w v us) (hY: ∀y∈Y,y∈X∨w.heap.size≤y):nC Y w v us:=by
 obtain⟨p,cap,h1,h2,h3,h4⟩:=h;refine⟨p,cap,h1,h2,h3,fun j u hj=> ?_⟩;obtain⟨g,off,e1,e2,e3,e4⟩:=h4 j u hj;exact⟨g,off,e1,fun q=>by rcases hY g q with r|r;(·exact e2 r);(·omega),e3,e4⟩
theorem nC.sub {X Y:List Nat} {w:World} {v:Value} {us:List Value} (h:nC Y w v us) (hX: ∀x∈X,x∈Y):nC X w v us:=by
 obtain⟨p,cap,h1,h2,h3,h4⟩:=h;refine⟨p,cap,h1,h2,h3,fun j u hj=> ?_⟩;obtain⟨g,off,e1,e2,e3,e4⟩:=h4 j u hj;exact⟨g,off,e1,fun q=>e2 (hX g q),e3,e4⟩
theorem nC.nil (X:List Nat) (w:World):nC X w (.slice none 0 0) []:=⟨none,0,rfl,aH _,bq _,fun j u hj=>by simp at hj⟩
theorem nC.form {X:List Nat} {w:World} {v:Value} {us:List Value} (h:nC X w v us): ∃p cap,v= .slice p us.length cap∧us.length≤cap∧cap≤maxLen∧∀j u,us[j]?=some u→∃g off,p=some ⟨g,off,none⟩∧g∉X∧g<w.heap.size∧w.cell? ⟨g,off+j,none⟩=some u:=h
theorem oL {X:List Nat} {w:World} {base:Nat} {E:TypeId} {v:Value} {us:List Value} (h:w.ownsRow base E 1 v us.length us) (hX: ∀x∈X,∀g,v.ownBlock=some g→x≠g):nC X w v us:=by
 have ho:=h;rcases h.2 with⟨rfl,h3⟩|⟨g,cap,cur,rfl,hg,hh,hcap,hmax,_⟩
 ·cases us with
  |nil=>exact nC.nil X w
  |cons b r=>simp at h3
 ·refine⟨some ⟨g,0,none⟩,cap,rfl,hcap,hmax,fun j u hj=>⟨g,0,rfl,fun q=>hX g q g rfl rfl,(ho.lt g rfl).2,?_⟩⟩
  have hlt:j<us.length:=(au.1 hj).1;rw[bH,ho.cellAt j om];exact hj
structure El (T E:TypeId) (z:Value) (b:Nat):Prop where
 und:Tryz.prog.underlying T=some (.slice E)
 info:(Tryz.prog.info? E).map (fun i=>(i.zero,i.size,i.bytes))=some (some z,1,b)
 one:z.cells.size=1
 few:b≤64
def tZ (w:World) (p:Option Addr) (ms:List Value):Prop:=
 (p=none∧ms=[])∨∃a:Addr,p=some a∧∀(j:Nat) (u:Value),ms[j]?=some u→w.cell? (a.add j)=some u
theorem addr_add (g o j:Nat):(⟨g,o,none⟩:Addr).add j=⟨g,o+j,none⟩:=by
 unfold Addr.add;split
 ·rename_i e;rw[e];rfl
 ·rfl
theorem nC.src {X:List Nat} {w:World} {p:Option Addr} {n cap:Nat} {us:List Value} (h:nC X w (.slice p n cap) us):tZ w p us:=by
 obtain⟨q,c,h1,_,_,h4⟩:=h;injection h1 with h1 _ _;subst h1;cases p with
 |none=>
  refine .inl ⟨rfl,?_⟩;cases us with
  |nil=>rfl
  |cons u r=>obtain⟨g,off,e,_⟩:=h4 0 u rfl;cases e
 |some a=>
  refine .inr ⟨a,rfl,fun j u hj=> ?_⟩;obtain⟨g',o',e,_,_,e4⟩:=h4 j u hj;injection e with e;subst e;rw[addr_add];exact e4
theorem Nt {T E:TypeId} {z:Value} {b:Nat} (hE:El T E z b) {w:World} (ty:TypeId) {base:Nat} {v:Value} {us:List Value} (hown:w.ownsRow base E 1 v us.length us) {p:Option Addr} {c:Nat} {ms:List Value} (hs:tZ w p ms) (h1: ∀u∈ms,u.oneCell'=true)
 (hl:us.length+ms.length≤65536) (hb:base≤w.heap.size):
 ∃q k w',(Builtin.append_ #[T,T] ty #[v,.slice p ms.length c]).run Tryz.prog w= .ok (.slice q (us++ms).length k) w'∧w'.ownsRow base E 1 (.slice q (us++ms).length k) (us++ms).length (us++ms)∧w.grownBy w' v.ownBlock∧
  ((Value.slice q (us++ms).length k).ownBlock=v.ownBlock∨(Value.slice q (us++ms).length k).ownBlock=some w.heap.size):=by
 obtain⟨i0,hi,hz0,hz1,hz2⟩:=info_parts hE.info;have ht:=hE.und;have hfew:=hE.few;rcases hs with⟨rfl,rfl⟩|⟨a,rfl,hc⟩
 ·rcases hown.2 with⟨rfl,hu⟩|⟨g,cap,cur,rfl,_,_,hnc,_⟩
  ·refine⟨none,0,w,?_,?_,⟨rfl,rfl,rfl,aH _,fun _ _ _=>rfl⟩,.inl rfl⟩
   ·simp[Builtin.append_,run_underlying ht,sizeOf,typeInfo,hi,Builtin.lenOf,Builtin.firstCells,hu]
   ·have hu':us=[]:=bR.1 hu
    subst hu';exact hown
  ·refine⟨some ⟨g,0,none⟩,cap,w,?_,by simpa using hown,⟨rfl,rfl,rfl,aH _,fun _ _ _=>rfl⟩,.inl rfl⟩
   simp[Builtin.append_,run_underlying ht,sizeOf,typeInfo,hi,Builtin.lenOf,Builtin.firstCells,hnc,storeCells]
 ·obtain⟨v',w',hrun,h2,h3,_,h5⟩:=run_append_own_at (P:=Tryz.prog) w base T ty E i0 z 1 b ht hi hz0 hz1 hz2 hE.one om v us.length us hown a ms.length c ms
   om hc h1 (by unfold maxLen;omega) (by
    have:(us.length+ms.length)*b≤65536*64:=eB hl hfew;omega) hb
  have hf: ∃q k,v'= .slice q (us.length+ms.length) k:=by
   rcases h2.2 with⟨e,e2⟩|⟨g',cap',cur,e,_⟩
   ·exact⟨none,0,by rw[e,e2]⟩
   ·exact⟨_,_,e⟩
  obtain⟨q,k,rfl⟩:=hf;rw[←aV] at hrun h2 h5;exact⟨q,k,w',hrun,h2,h3,h5⟩
theorem qj {T E:TypeId} {z:Value} {b:Nat} (hE:El T E z b) {base:Nat} {v:Value} {us ms:List Value} {w:World} {p:Option Addr} {c:Nat} {ops:Array Oper} {rest:List Oper} {o:Oper} {a:Act} {Q:Exit→Act→World→Prop} (hgd:o.guard=none) (s x:Operand)
 (ho:o.op= .call {callee:=.builtin .append,args:=#[s,x],argTypes:=#[T,T]}) (hv:a.eval s=v) (mn:Nat) (hx:a.eval x= .slice p mn c) (hmn:ms.length=mn)
 (hown:w.ownsRow base E 1 v us.length us) (hs:tZ w p ms) (h1: ∀u∈ms,u.oneCell'=true) (hl:us.length+ms.length≤65536) (hb:base≤w.heap.size)
 (h: ∀q k w',w'.ownsRow base E 1 (.slice q (us++ms).length k) (us++ms).length (us++ms)→w.grownBy w' v.ownBlock→((Value.slice q (us++ms).length k).ownBlock=v.ownBlock∨(Value.slice q (us++ms).length k).ownBlock=some w.heap.size)→wpList Tryz.prog ops Q rest (a.put o.dst (.slice q (us++ms).length k)) w'):wpList Tryz.prog ops Q (o::rest) a w:=by
 subst hmn;refine wpList_plain hgd fun K hK=> ?_
 obtain⟨q,k,w',hrun,h2,h3,h4⟩:=Nt hE (w:=w) o.type hown hs h1 hl hb (c:=c);unfold Oper.wp execOp;simp only[ho,resolve,invoke,builtin,fA,fI,dS,dZ,bP,dW,hv,hx,hrun];exact hK _ _ (h q k w' h2 h3 h4)
theorem qC {T E:TypeId} {z:Value} {b:Nat} (hE:El T E z b) {base:Nat} {v:Value} {us ms:List Value} {w:World} {p:Option Addr} {c:Nat} {ops:Array Oper} {o:Oper} {a:Act} {K:Act→World→Prop} {Q:Exit→Act→World→Prop} {F:Prop} (hgd:o.guard=none) (s x:Operand)
 (ho:o.op= .call {callee:=.builtin .append,args:=#[s,x],argTypes:=#[T,T]}) (hv:a.eval s=v) (mn:Nat) (hx:a.eval x= .slice p mn c) (hmn:ms.length=mn)
 (hown:w.ownsRow base E 1 v us.length us) (hs:tZ w p ms) (h1: ∀u∈ms,u.oneCell'=true) (hl:us.length+ms.length≤65536) (hb:base≤w.heap.size)
 (h: ∀q k w',w'.ownsRow base E 1 (.slice q (us++ms).length k) (us++ms).length (us++ms)→w.grownBy w' v.ownBlock→((Value.slice q (us++ms).length k).ownBlock=v.ownBlock∨(Value.slice q (us++ms).length k).ownBlock=some w.heap.size)→K (a.put o.dst (.slice q (us++ms).length k)) w'):
 if Region.wanted o (yielded ops a.tmps)=true then Oper.wp Tryz.prog o a w K Q else F:=by
 subst hmn;have hw:Region.wanted o (yielded ops a.tmps)=true:=by simp[Region.wanted,hgd]
 rw[if_pos hw];obtain⟨q,k,w',hrun,h2,h3,h4⟩:=Nt hE (w:=w) o.type hown hs h1 hl hb (c:=c);unfold Oper.wp execOp;simp only[ho,resolve,invoke,builtin,fA,fI,dS,dZ,bP,dW,hv,hx,hrun];exact h q k w' h2 h3 h4
theorem sO (w:World) (u:Value) (t:TypeId):tZ (w.alloc (.cells #[u] t)) (some ⟨w.heap.size,0,none⟩) [u]:=
 .inr ⟨_,rfl,fun j x hj=>by
  rw[addr_add];cases j with
  |zero=>simp at hj;subst hj;rw[aZ _ _ _ _ sI];rfl
  |succ j=>simp at hj⟩
theorem Below.grownK {S:List Nat} {w w':World} {r:Option Nat} (h:w.grownBy w' r) (hr: ∀g,r=some g→g∈S∨w.heap.size≤g):Keep S w w':=
 ⟨h.os,h.tape,h.output,h.size,fun k hk hn=>h.block k hk fun e=>by rcases hr k e.symm with q|q;(·exact hn q);(·omega)⟩
def jF (v:Value):List Nat:=v.ownBlock.toList
theorem nQ {v:Value} {g:Nat}:g∈jF v↔v.ownBlock=some g:=by unfold jF;cases v.ownBlock<;>simp[eq_comm]
theorem jP {w:World} {B:Nat} {E:TypeId} {s:Nat} {v:Value} {n:Nat} {xs:List Value} (h:w.ownsRow B E s v n xs) {g:Nat} (hg:g∈jF v):B≤g∧g<w.heap.size:=h.lt g (nQ.1 hg)
theorem jS {w w':World} {v:Value} (hg:w.grownBy w' v.ownBlock):Keep (jF v) w w':=Below.grownK hg fun g e=>.inl (nQ.2 e)
theorem ou {w:World} {v v':Value} (ho:v'.ownBlock=v.ownBlock∨v'.ownBlock=some w.heap.size): ∀y∈jF v',y∈jF v∨w.heap.size≤y:=by
 intro y hy;rw[nQ] at hy ⊢;rcases ho with e|e
 ·exact .inl (e▸hy)
 ·rw[e] at hy;injection hy with hy;exact .inr om
theorem jE {S:List Nat} {w w':World} {B:Nat} {E:TypeId} {s:Nat} {v:Value} {n:Nat} {xs:List Value} (h:w.ownsRow B E s v n xs) (k:Keep S w w') (hs: ∀x∈S,x∉jF v):w'.ownsRow B E s v n xs:=by
 refine⟨h.1,?_⟩;have hlt:=h.lt;rcases h.2 with hn|⟨g,cap,cur,rfl,hb,hgg,rest⟩
 ·exact .inl hn
 ·exact .inr ⟨g,cap,cur,rfl,hb,(k.block g (hlt g rfl).2 fun q=>hs g q (nQ.2 rfl)).trans hgg,rest⟩
structure jD (w:World) (b:Nat) (us:List Value):Prop where
 lt:b<w.heap.size
 c: ∀j u,us[j]?=some u→w.cell? ⟨b,j,none⟩=some u
 f: ∀j,j<us.length→w.frozen? ⟨b,j,none⟩=false
theorem jD.gC {w:World} {b:Nat} {us:List Value} (h:jD w b us) (j:Nat) {u:Value} (e:us[j]?=some u:=by exact rfl):w.cell? ⟨b,j,none⟩=some u:=h.c j u e
theorem jD.keep {S:List Nat} {w w':World} {b:Nat} {us:List Value} (h:jD w b us) (k:Keep S w w') (hb:b∉S):jD w' b us:=
 ⟨aC h.lt k.size,fun j u hj=>(k.cell h.lt hb).trans (h.c j u hj),fun j hj=>(k.frozen h.lt hb).trans (h.f j hj)⟩
theorem jD.below {w w':World} {b:Nat} {us:List Value} (h:jD w b us) {n:Nat} (k:Below n w w') (hb:b<n):jD w' b us:=
 ⟨aC h.lt k.size,fun j u hj=>(k.cell (p:=⟨b,j,none⟩) hb).trans (h.c j u hj),fun j hj=>(k.frozen (p:=⟨b,j,none⟩) hb).trans (h.f j hj)⟩
theorem jD.go {w w':World} {b:Nat} {us:List Value} (h:jD w b us) (k:Below w.heap.size w w'):jD w' b us:=h.below k h.lt
theorem jD.new (w:World) (us:List Value) (t:TypeId):jD (w.alloc (.cells us.toArray t)) w.heap.size us:=
 ⟨sI,fun j u hj=>by rw[aZ _ _ _ _ sI];simpa using hj,fun j hj=>cZ _ _ _ _ rfl⟩
theorem jD.store {w:World} {b:Nat} {us:List Value} (h:jD w b us) (i:Nat) (v:Value) (hi:i<us.length):jD (w.setCell ⟨b,i,none⟩ v) b (us.set i v):=by
 refine⟨by simpa[World.setCell] using h.lt,fun j u hj=> ?_,fun j hj=>by rw[jX];exact h.f j (by simpa using hj)⟩;by_cases e:i=j
 ·subst e
  rw[aY hi] at hj;injection hj with hj;subst hj;obtain⟨x,hx⟩: ∃x,us[i]?=some x:=⟨us[i],aA _⟩;exact jY _ (h.c i x hx)
 ·rw[bL e] at hj
  rw[jM _ e];exact h.c j u hj
theorem jD.mk_ (w:World) (us:List Value) (t:TypeId) {b:Nat} (h:w.heap.size=b):jD (w.alloc (.cells us.toArray t)) b us:=by subst h;exact jD.new w us t
theorem jD.past {w:World} {b:Nat} {us:List Value} (h:jD w b us) (o:Obj):jD (w.alloc o) b us:=h.go ((aO _ _).alloc (aH _) o)
theorem jD.lT {w:World} {b:Nat} {us:List Value} (h:jD w b us):jD w.drew b us:=h.keep ((Keep.refl [] _).drew) sI
theorem jD.drewNL {w:World} {b:Nat} {us:List Value} (h:jD w b us) (m:Nat):jD (w.drewN m) b us:=h.keep ((Keep.refl [] _).drewN m) sI
theorem jD.far {w:World} {b c:Nat} {us:List Value} (h:jD w b us) (hb:c≠b) (o:Nat) (v:Value):jD (w.setCell ⟨c,o,none⟩ v) b us:=
 h.keep (S:=[c]) ((Keep.refl [c] _).setCell (p:=⟨c,o,none⟩) (.inl sI) v) (by simpa using fun e=>hb e.symm)
theorem jD.kH {w:World} {b:Nat} {u0 u1:Value} (h:jD w b [u0,u1]) (v0 v1:Value):jD ((w.setCell ⟨b,0,none⟩ v0).setCell ⟨b,1,none⟩ v1) b [v0,v1]:=(h.store 0 v0 sI).store 1 v1 sI
theorem jD.vU {w:World} {b:Nat} {u0 u1 u2:Value} (h:jD w b [u0,u1,u2]) (v0 v1 v2:Value):jD (((w.setCell ⟨b,0,none⟩ v0).setCell ⟨b,1,none⟩ v1).setCell ⟨b,2,none⟩ v2) b [v0,v1,v2]:=((h.store 0 v0 sI).store 1 v1 sI).store 2 v2 sI
theorem Keep.Dy {S:List Nat} {w0 w:World} {b:Nat} (h:Keep S w0 w) (hb:b∈S∨w0.heap.size≤b) (u v:Value):Keep S w0 ((w.setCell ⟨b,0,none⟩ u).setCell ⟨b,1,none⟩ v):=(h.setCell (p:=⟨b,0,none⟩) hb u).setCell (p:=⟨b,1,none⟩) hb v
theorem Keep.wide {S:List Nat} {a b:World} (h:Keep [] a b):Keep S a b:=h.mono (fun _ q=>by cases q)
theorem Keep.stepW {S:List Nat} {a b c:World} (h:Keep [] a b) (k:Below b.heap.size b c):Keep S a c:=(h.step k).wide
theorem Keep.thenW {S:List Nat} {a b c:World} (h:Keep [] a b) (k:Keep S b c):Keep S a c:=h.wide.then k
section
open Go.RowKit Go.ChangeShapes
def kL (x:Int):Prop:= -9223372036854775808≤x∧x≤9223372036854775807
theorem qx {x:Int} (h:(Lit.int .i64 x).wf=true):kL x:=by
 simp[Lit.wf,IntKind.min,IntKind.max,IntKind.signed,IntKind.bits] at h;exact⟨om,om⟩
def RowG {α:Type} (s:Nat) (cells:α→List Value) (fits:α→Prop) (w:World) (v:Value) (xs:List α):Prop:=
 ∃p cap,v= .slice p xs.length cap∧(xs.length≤cap∧cap≤maxLen)∧∀j x,xs[j]?=some x→fits x∧∃g off,p=some ⟨g,off,none⟩∧g<w.heap.size∧∀i u,(cells x)[i]?=some u→w.cell? ⟨g,off+j*s+i,none⟩=some u
end
section
open Go.RowKit Go.ChangeShapes
def RowI (w:World) (v:Value) (xs:List Int):Prop:=
 ∃p cap,v= .slice p xs.length cap∧∀j x,xs[j]?=some x→∃g off,p=some ⟨g,off,none⟩∧g<w.heap.size∧w.cell? ⟨g,off+j,none⟩=some (.int .i64 x)∧ -9223372036854775808≤x∧x≤9223372036854775807
end
def Row1 (w:World) (g:Nat) (e:TypeId) (cs:List Value):Prop:=∃cur:Array Value,w.heap[g]?=some (.cells cur e (0,0))∧cur.toList=cs
theorem Row1.lt {w:World} {g:Nat} {e:TypeId} {cs:List Value} (h:Row1 w g e cs):g<w.heap.size:=by
 obtain⟨cur,h1,_⟩:=h;rcases dV g w.heap.size with q|q
 ·exact q
 ·rw[fu q] at h1;cases h1
theorem Row1.keep {S:List Nat} {w w':World} {g:Nat} {e:TypeId} {cs:List Value} (h:Row1 w g e cs) (k:Keep S w w') (hg:g∉S):Row1 w' g e cs:=by
 have hl:=h.lt;obtain⟨cur,h1,h2⟩:=h;exact⟨cur,(k.block g hl hg).trans h1,h2⟩
theorem Row1.loc {w:World} {g:Nat} {e:TypeId} {cs:List Value} (h:Row1 w g e cs):jD w g cs:=by
 have hl:=h.lt;obtain⟨cur,h1,rfl⟩:=h;refine⟨hl,fun j u hj=> ?_,fun j hj=> ?_⟩
 ·simp only[World.cell?,h1]
  simpa using hj
 ·simp only[World.frozen?,h1]
  simp
theorem Row1.drew {w:World} {g:Nat} {e:TypeId} {cs:List Value} (h:Row1 w g e cs):Row1 w.drew g e cs:=h
theorem Row1.set {w:World} {g:Nat} {e:TypeId} {cs:List Value} (h:Row1 w g e cs) (o:Nat) (v:Value):Row1 (w.setCell ⟨g,o,none⟩ v) g e (cs.set o v):=by
 obtain⟨cur,h1,rfl⟩:=h;refine⟨cur.setIfInBounds o v,?_,sI⟩;simp only[World.setCell,gq,h1];simp
theorem Row1.sets {g:Nat} {e:TypeId}: ∀(vs:List Value) {w:World} {cs:List Value} (o:Nat),Row1 w g e cs→o+vs.length≤cs.length→Row1 (w.setCells g o vs) g e (cs.take o++vs++cs.drop (o+vs.length))
 |[],w,cs,o,h,hl=>by simpa[World.setCells] using h
 |v::r,w,cs,o,h,hl=>by
  have:=Row1.sets r (o+1) (h.set o v) (by simp at hl ⊢;omega);rw[World.setCells];have e1:(cs.set o v).take (o+1)++r++(cs.set o v).drop (o+1+r.length)=cs.take o++v::r++cs.drop (o+(r.length+1)):=by
   simp at hl;apply je;intro i;simp only[List.getElem?_append,aV,bC,bZ,dF,eO,List.getElem?_set,cK,List.getElem?_cons];rcases gH i o with q|q|q
   ·simp[show i<o+1 by omega,show i<min (o+1) cs.length+r.length by omega,show i<min (o+1) cs.length by omega,show i<min o cs.length+(r.length+1) by omega,show i<min o cs.length by omega,q,show o≠i by omega]
   ·subst q
    simp[show i<min (i+1) cs.length+r.length by omega,show i<min (i+1) cs.length by omega,show¬i<min i cs.length by omega,show i<min i cs.length+(r.length+1) by omega,show i<cs.length by omega,show i-min i cs.length=0 by omega]
   ·by_cases q2:i<o+1+r.length
    ·have a1:i<min (o+1) cs.length+r.length:=by omega
     have a2: ¬i<min (o+1) cs.length:=om;have a3:i<min o cs.length+(r.length+1):=om;have a4: ¬i<min o cs.length:=om;have a5: ¬(i-min o cs.length=0):=om;simp only[a1,a2,a3,a4,a5,if_true,if_false];rw[show i-min (o+1) cs.length=i-min o cs.length-1 by omega]
    ·have a1: ¬i<min (o+1) cs.length+r.length:=by omega
     have a3: ¬i<min o cs.length+(r.length+1):=om;have a5: ¬(o=o+1+r.length+(i-(min (o+1) cs.length+r.length))):=om;simp only[a1,a3,a5,if_false];rw[show o+1+r.length+(i-(min (o+1) cs.length+r.length))=o+(r.length+1)+(i-(min o cs.length+(r.length+1))) by omega]
  rw[e1] at this;simpa using this
theorem mZ {g:Nat}: ∀(vs:List Value) {S:List Nat} {w0 w:World} (o:Nat),Keep S w0 w→(g∈S∨w0.heap.size≤g)→Keep S w0 (w.setCells g o vs)
 |[],S,w0,w,o,k,h=>k
 |v::r,S,w0,w,o,k,h=>mZ r (o+1) (k.setCell (p:=⟨g,o,none⟩) h v) h
theorem Row1.own {w:World} {B g:Nat} {e:TypeId} {cs:List Value} (h:Row1 w g e cs) (hB:B≤g) {n:Nat} (hn:n≤cs.length) (hm:cs.length≤maxLen):w.ownsRow B e 1 (.slice (some ⟨g,0,none⟩) n cs.length) n (cs.take n):=by
 obtain⟨cur,h1,rfl⟩:=h;refine⟨by rw[bC];omega,.inr ⟨g,_,cur,rfl,hB,h1,hn,hm,sI,sI⟩⟩
theorem yX {w:World} {B g n cap:Nat} {e:TypeId} {us:List Value} (h:w.ownsRow B e 1 (.slice (some ⟨g,0,none⟩) n cap) n us): ∃rest,Row1 w g e (us++rest)∧(us++rest).length=cap∧us.length=n∧n≤cap∧cap≤maxLen∧B≤g:=by
 obtain⟨hl,h⟩:=h;rcases h with⟨h,_⟩|⟨g',cap',cur,h,hB,h1,h2,h3,h4,h5⟩
 ·cases h
 ·injection h with e1 e2 e3
  injection e1 with e1;injection e1 with e1;subst e1 e3;simp only[Nat.mul_one] at*
  refine⟨cur.toList.drop n,⟨cur,h1,by rw[←h5,bX]⟩,?_,hl,h2,h3,hB⟩;rw[←h5,bX];simpa using h4
end Go.Proofs.YtehhldljdakgeaaGreatDoor
