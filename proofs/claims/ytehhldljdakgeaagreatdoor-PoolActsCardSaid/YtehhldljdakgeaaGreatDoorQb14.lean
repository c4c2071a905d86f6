/- Lemmas. -/
import Derived.Test.YtehhldljdakgeaaGreatDoorQb01
import Derived.Test.YtehhldljdakgeaaGreatDoorQb13
set_option linter.unusedSimpArgs false
set_option linter.unusedVariables false
set_option maxHeartbeats 16000000
set_option maxRecDepth 100000
namespace Go.Proofs.YtehhldljdakgeaaGreatDoor
open Go.RowKit Go.Maps Go.Proofs.Tryz
attribute [local go_sem ↓] aJ aK
def EPost {σ:Type} (S:List Nat→List Nat→σ→World→Prop) (X F:List Nat) (d:σ) (w:World) (r:Value) (en:Ending) (w':World):Prop:=
 en= .returned r∧∃X',S X' F d w'∧Keep (off X F) w w'∧(∀x∈X',x∈X∨w.heap.size≤x)∧∀x∈X,x∈X'
structure FEnv (σ:Type) (w0:World) where
 S:List Nat→List Nat→σ→World→Prop
 bel: ∀{X F d w},S X F d w→Below w0.heap.size w0 w
 lim: ∀{X F d w},S X F d w→∀x∈X,w0.heap.size≤x∧x<w.heap.size
 sU: ∀{X F d w},S X F d w→∀f∈F,f∈X
 go: ∀{X F d w w'},S X F d w→Below w.heap.size w w'→S X F d w'
 other: ∀{X F G d w w'},S X F d w→Keep G w w'→(∀g∈G,g∈F)→S X F d w'
 uS: ∀{X F G Y d w w'},S X F d w→Keep G w w'→(∀g∈G,g∈F)→(∀y∈Y,w.heap.size≤y∧y<w'.heap.size)→S (Y++X) (Y++F) d w'
 wB: ∀{X F G d w},S X F d w→(∀g∈G,g∈F)→S X G d w
structure pQ {σ:Type} {w0:World} (E:FEnv σ w0) (X0 F:List Nat) (w:World) (L X:List Nat) (d:σ) (W:World):Prop where
 t:E.S X (L++F) d W
 k:Keep (off X0 F) w W
 x1: ∀x∈X,x∈X0∨w.heap.size≤x
 x2: ∀x∈X0,x∈X
 l: ∀b∈L,w.heap.size≤b∧b<W.heap.size
section
variable {σ:Type} {w0 w W W':World} {E:FEnv σ w0} {X0 F L X:List Nat} {d d':σ} {b:Nat} {r:Value} {en:Ending}
theorem pQ.start (h:E.S X F d w):pQ E X F w [] X d w:=⟨h,Keep.refl _ _,fun _ q=>.inl q,fun _ q=>q,fun b q=>by cases q⟩
theorem pQ.go (h:pQ E X0 F w L X d W) (k:Below W.heap.size W W'):pQ E X0 F w L X d W':=⟨E.go h.t k,h.k.step k,h.x1,h.x2,fun b q=>⟨(h.l b q).1,aC (h.l b q).2 k.size⟩⟩
theorem pQ.box (h:pQ E X0 F w L X d W) (o:Obj):pQ E X0 F w (W.heap.size::L) (W.heap.size::X) d (W.alloc o):=by
 have kb:Below W.heap.size W (W.alloc o):=(aL _ _).alloc (aI _) o;have zk:=h.k.size;refine⟨E.uS (Y:=[W.heap.size]) (G:=[]) h.t (Keep.of kb) (fun g q=>by cases q) (fun y hy=>by simp at hy;subst hy;simp),h.k.step kb,fun x q=> ?_,fun x q=>ak _ (h.x2 x q),fun b q=> ?_⟩
 ·rcases aB.1 q with r|r
  ·subst r;exact .inr zk
  ·exact h.x1 x r
 ·rcases aB.1 q with r|r
  ·subst r;exact⟨zk,sI⟩
  ·exact⟨(h.l b r).1,aC (h.l b r).2 kb.size⟩
theorem pQ.wr (h:pQ E X0 F w L X d W) (hb:b∈L) (k:Keep [b] W W'):pQ E X0 F w L X d W':=by
 refine⟨E.other h.t k fun g q=> ?_,h.k.trans k fun s q=> ?_,h.x1,h.x2,fun c q=>⟨(h.l c q).1,aC (h.l c q).2 k.size⟩⟩
 ·simp at q;subst q;exact av _ hb
 ·simp at q;subst q;exact .inr (h.l _ hb).1
theorem pQ.act (h:pQ E X0 F w L X d W) (hp:EPost E.S X (L++F) d' W r en W'):en= .returned r∧∃X',pQ E X0 F w L X' d' W'∧Keep (off X (L++F)) W W':=by
 obtain⟨h1,X',h2,h3,h4,h5⟩:=hp;have z:=h.k.size;refine⟨h1,X',⟨h2,h.k.trans h3 fun s q=> ?_,fun x q=> ?_,fun x q=>h5 x (h.x2 x q),fun b q=>⟨(h.l b q).1,aC (h.l b q).2 h3.size⟩⟩,h3⟩
 ·obtain⟨q1,q2⟩:=jW.1 q
  exact(h.x1 s q1).imp (fun t=>jW.2 ⟨t,fun u=>q2 (aj _ u)⟩) id
 ·rcases h4 x q with t|t
  ·exact h.x1 x t
  ·exact .inr om
theorem pQ.fin (h:pQ E X0 F w L X d W):EPost E.S X0 F d w r (.returned r) W:=
 ⟨rfl,X,E.wB h.t fun g q=>aj _ q,h.k,h.x1,h.x2⟩
theorem pQ.loc (hb:b∈L) {us:List Value} (hl:jR W b us) (k:Keep (off X (L++F)) W W'):jR W' b us:=hl.keep k fun q=>(jW.1 q).2 (av _ hb)
end
structure sG (pd pc pz e:Nat) (mn:Int) (O:List (List Int)) (ev:Nat→Addr) (w0:World) extends FEnv De w0 where
 inv: ∀{X F d w},S X F d w→pU e d
 ord: ∀{X F d w},S X F d w→rM O d.c.L.length
 err:qC w0.heap.size ev w0
 take: ∀{X F d w} (k n:Int) (u:Bool),S X F d w→Calls prog 23 #[.pointer (some ⟨pd,0,none⟩),.int .i64 k,.int .i64 n,.bool u] w (EPost S X F (takeD mn O e d k n u).1 w (.tuple #[obV (takeD mn O e d k n u).2.2,kM ev (takeD mn O e d k n u).2.1]))
 give: ∀{X F d w} (k:Int) (o:Ob),S X F d w→ -9223372036854775808≤o.2→o.2≤9223372036854775807→Calls prog 50 #[.pointer (some ⟨pd,0,none⟩),.int .i64 k,.agg #[.int .i64 o.1,.int .i64 o.2]] w (EPost S X F (lI e d k o).1 w (kM ev (lI e d k o).2))
 work: ∀{X F d w},S X F d w→Calls prog 64 #[.pointer (some ⟨pd,0,none⟩)] w fun r w'=>r= .returned (.int .i64 d.H.length)∧w'=w
 cache: ∀{X F d w},S X F d w→Calls prog 55 #[.pointer (some ⟨pd,0,none⟩)] w fun r w'=>r= .returned (.pointer (some ⟨pc,0,none⟩))∧w'=w
 zone: ∀{X F d w},S X F d w→Calls prog 105 #[.pointer (some ⟨pc,0,none⟩)] w fun r w'=>r= .returned (.pointer (some ⟨pz,0,none⟩))∧w'=w
 free: ∀{X F d w} (v:Int),S X F d w→Calls prog 106 #[.pointer (some ⟨pz,0,none⟩),.int .i64 v] w fun r w'=>(∃n,r= .returned (.tuple #[.int .i64 n,kM ev (if 0≤v∧v<d.c.L.length then 0 else 2)]))∧Below w.heap.size w w'
section
variable {X F:List Nat} {B:Nat} {w w0:World} {ev:Nat→Addr} {pd pc pz gh pdm ghm pcm pm gN e:Nat} {mn lw hi:Int} {O:List (List Int)} {d m:De} {v vp:Value} {A:SA} {V:HV} {U:List Value}
theorem BU (h:CD B w X pd pc pz gh mn lw hi O e v A V vp U d):
 Calls prog 64 #[.pointer (some ⟨pd,0,none⟩)] w fun r w'=>r= .returned (.int .i64 d.H.length)∧w'=w:=by
 have c1:=h.de.d.gC 1;have cl:=h.de.d.lt;clear h;go_in
 go_wp2;go_ret;exact⟨rfl,rfl⟩
theorem Qn (h:CD B w X pd pc pz gh mn lw hi O e v A V vp U d):
 Calls prog 105 #[.pointer (some ⟨pc,0,none⟩)] w fun r w'=>r= .returned (.pointer (some ⟨pz,0,none⟩))∧w'=w:=by
 have c0:=h.cs.ch.c.gC 0;have cl:=h.cs.ch.c.lt;clear h;go_in
 go_wp2;go_ret;exact⟨rfl,rfl⟩
theorem I9 {L:List Nd} (v:Int) (hE:Ap B ev w) (h:pR B w pz mn lw hi O L) (hL:0<L.length):
 Calls prog 106 #[.pointer (some ⟨pz,0,none⟩),.int .i64 v] w fun r w'=>(∃n,r= .returned (.tuple #[.int .i64 n,kM ev (if 0≤v∧v<L.length then 0 else 2)]))∧Below w.heap.size w w':=by
 by_cases hv:0≤v∧v<L.length
 ·rw[if_pos hv]
  obtain⟨x,hx⟩: ∃x,L[v.toNat]?=some x:=⟨L[v.toNat]' om,aA _⟩;have:=Q9 pz mn lw hi O L v.toNat x w h hx;rw[show((v.toNat:Nat):Int)=v from om] at this;exact this.mono fun r w' ⟨q,b⟩=>⟨⟨_,q⟩,b⟩
 ·rw[if_neg hv]
  exact(H9 pz mn lw hi O L v w hE h hL om).mono fun r w' ⟨q,b⟩=>⟨⟨_,q⟩,b⟩
theorem Ew (h:CD B w X pd pc pz gh mn lw hi O e v A V vp U d):
 Calls prog 55 #[.pointer (some ⟨pd,0,none⟩)] w fun r w'=>r= .returned (.pointer (some ⟨pc,0,none⟩))∧w'=w:=by
 have c0:=h.de.d.gC 0;have cl:=h.de.d.lt;clear h;go_in
 go_wp2;go_ret;exact⟨rfl,rfl⟩
end
section
variable {σ τ:Type} {w0 w1:World}
structure Duo (E:FEnv σ w0) (D:FEnv τ w1) (w:World) (L:List Nat) (X F Y G:List Nat) (d:σ) (m:τ) (W:World):Prop where
 s:E.S X F d W
 t:D.S Y G m W
 a: ∀x∈off X F,x∈G
 b: ∀x∈off Y G,x∈F
 l1: ∀b∈L,b∈F∧b∈G
 l2: ∀b∈L,w.heap.size≤b∧b<W.heap.size
 bel:Below w.heap.size w W
 lo:w.heap.size≤w0.heap.size∧w.heap.size≤w1.heap.size
def lT (E:FEnv σ w0) (D:FEnv τ w1) (w:World) (L:List Nat) (d:σ) (m:τ) (W:World):Prop:=∃X F Y G,Duo E D w L X F Y G d m W
variable {E:FEnv σ w0} {D:FEnv τ w1} {w W W':World} {L X F Y G:List Nat} {d d':σ} {m m':τ} {b:Nat} {r:Value} {en:Ending}
end
section
variable {w0:World} {ev:Nat→Addr} {pd pc pz e:Nat} {mn:Int} {O:List (List Int)}
def VZ (gh:Nat) (lw hi:Int) (hE:qC w0.heap.size ev w0):sG pd pc pz e mn O ev w0 where
 S X F d w:=DpS w0.heap.size w0 pd pc pz gh mn lw hi O e X F d w
 bel h:=h.bel
 lim h:=h.lim
 sU h:=h.sU
 inv h:=h.inv
 ord h:=h.ord
 go h k:=h.go h.bel.size k
 other h k hs:=h.other h.bel.size k hs
 uS h k hs hy:=h.uS h.bel.size k hs hy
 wB h hg:=h.wB hg
 err:=hE
 take k n u h:=(VX k n u hE.s h).mono fun r w' ⟨a,b,X',c1,c2,c3⟩=>⟨a,X',c3,b,c1,c2⟩
 give k o h o1 o2:=(VY k o hE.s h o1 o2).mono fun r w' ⟨a,b,X',c1,c2,c3⟩=>⟨a,X',c3,b,c1,c2⟩
 work h:=by
  obtain⟨v',A',V',vp',U',c,_⟩:=h.cd;exact BU c
 cache h:=by
  obtain⟨v',A',V',vp',U',c,_⟩:=h.cd;exact Ew c
 zone h:=by
  obtain⟨v',A',V',vp',U',c,_⟩:=h.cd;exact Qn c
 free v h:=by
  obtain⟨v',A',V',vp',U',c,_⟩:=h.cd;exact I9 v (hE.go h.bel).c c.cs.z.toB c.cs.l0
end
theorem Te {base:Nat} (v:Value) (l:List (Int×Int)) (j:Nat) (w:World) (h:Jb base w v l) (hj:j<l.length) (hl:l.length≤256):
 Calls prog 169 #[v,.int .i64 j] w fun e w'=>∃v',e= .returned v'∧PI w w' v' (l.take j++l.drop (j+1)):=by
 rcases h with⟨_,rfl⟩|⟨g,cap,rfl,hcap,hmax,_,hg,hc⟩
 ·simp at hj
 unfold maxLen at hmax;have C:=ah hc;have lj:(l.take j).length=j:=by rw[bD];omega
 have ld:(l.drop (j+1)).length=l.length-(j+1):=bY;obtain⟨N,hN⟩:=eY l.length;rw[←hN] at hj hl hcap ld ⊢;have LJ:=ah lj;have LD:=ah ld;clear hc lj ld hN;have s1:Hid (Src w (some ⟨g,0,none⟩) (l.take j)):=.inr ⟨g,0,rfl,fun i a k hi=>by
  have hij:i<j:=by have:=(au.1 hi).1;rw[LJ.out] at this;exact this
  rw[dH hij] at hi;have:=C.out i a k hi;rwa [bK]⟩
 by_cases hk:cap=j+1
 ·subst hk
  have hN1:N=j+1:=om;have s2:Hid (∀w',Src w' (some ⟨g,0,none⟩) (l.drop (j+1))):=fun w'=>.inr ⟨g,0,rfl,fun i a k hi=>by
   have:=(au.1 hi).1;rw[LD.out] at this;omega⟩
  have HN1:=ah hN1;subst hN1;go_in
  go_wp2_with (first|(at_builtin;refine mq (base:=w.heap.size) (v:=.slice none 0 0) (l:=[]) (m:=l.take j) (p:=some ⟨g,0,none⟩) rfl (.tmp 6) (.tmp 9) rf rf j rf LJ.out (aT _ _ _ _) s1.out (by rw[LJ.out];simp;omega) (aI _) ?_;intro v1 w1 hown1 hg1;have hb1:Below w.heap.size w w1:=(aL _ _).grown hg1 (aI _) (fun r hr=>by simp[Value.ownBlock] at hr))|(at_builtin;go_loud (refine mq (base:=w.heap.size) (v:=v1) (l:=[]++l.take j) (m:=l.drop (j+1)) (p:=some ⟨g,0,none⟩) rfl (.tmp 11) (.tmp 15) rf rf (0) rf (by rw[LD.out];omega) hown1 (s2.out _) (by rw[LD.out];simp[LJ.out];omega) hb1.size ?_;intro v2 w2 hown2 hg2;have hb2:Below w.heap.size w w2:=hb1.grown hg2 hb1.size (fun r hr=>(hown1.lt r hr).1))));go_ret;exact⟨_,rfl,by simpa using hown2,hb2⟩
 ·have s2:Hid (∀w',Below w.heap.size w w'→Src w' (some ⟨g,(j+1)*2,none⟩) (l.drop (j+1))):=fun w' hb=>.inr ⟨g,(j+1)*2,rfl,fun i a k hi=>by
   rw[cO] at hi;obtain⟨h1,h2⟩:=C.out _ a k hi;have e1:(j+1)*2+i*2=(j+1+i)*2:=om;rw[e1,hb.cell (p:=⟨g,(j+1+i)*2,none⟩) hg,hb.cell (p:=⟨g,(j+1+i)*2+1,none⟩) hg];exact⟨h1,h2⟩⟩
  go_in
  go_wp2_with (first|(at_builtin;refine mq (base:=w.heap.size) (v:=.slice none 0 0) (l:=[]) (m:=l.take j) (p:=some ⟨g,0,none⟩) rfl (.tmp 6) (.tmp 9) rf rf j rf LJ.out (aT _ _ _ _) s1.out (by rw[LJ.out];simp;omega) (aI _) ?_;intro v1 w1 hown1 hg1;have hb1:Below w.heap.size w w1:=(aL _ _).grown hg1 (aI _) (fun r hr=>by simp[Value.ownBlock] at hr))|(at_builtin;go_loud (refine mq (base:=w.heap.size) (v:=v1) (l:=[]++l.take j) (m:=l.drop (j+1)) (p:=some ⟨g,(j+1)*2,none⟩) rfl (.tmp 11) (.tmp 15) rf rf (N-(j+1)) rf (LD.out) hown1 (s2.out _ hb1) (by rw[LD.out];simp[LJ.out];omega) hb1.size ?_;intro v2 w2 hown2 hg2;have hb2:Below w.heap.size w w2:=hb1.grown hg2 hb1.size (fun r hr=>(hown1.lt r hr).1))));go_ret;exact⟨_,rfl,by simpa using hown2,hb2⟩
theorem FW (w:World) (a k:Int) (t:TypeId):Src (w.alloc (.cells #[.int .i64 a,.int .i64 k] t)) (some ⟨w.heap.size,0,none⟩) [(a,k)]:=
 .inr ⟨w.heap.size,0,rfl,fun i x y hi=>by
  have h0:i=0:=by have:=(au.1 hi).1;simp at this;exact this
  subst h0;simp at hi;obtain⟨rfl,rfl⟩:=hi;exact⟨by rw[bE _ _ _ _ sI];rfl,by rw[bE _ _ _ _ sI];rfl⟩⟩
theorem W9 {base:Nat} (v:Value) (l:List (Int×Int)) (a k:Int) (w:World) (h:Jb base w v l) (hA:Asc l) (hne: ∀x∈l,x.1≠a) (hl:l.length≤256):
 Calls prog 170 #[v,.agg #[.int .i64 a,.int .i64 k]] w fun e w'=>∃v',e= .returned v'∧PI w w' v' (rC a k l):=by
 have HA:=ah hA;have HNE:=ah hne;clear hA hne;have h': ∃p cap,v= .slice p l.length cap∧l.length≤cap∧cap≤maxLen∧Hid ((p=none∧cap=0)∨∃g,p=some ⟨g,0,none⟩∧g<w.heap.size∧RowC w g l):=by
  rcases h with⟨rfl,rfl⟩|⟨g,cap,rfl,hcap,hmax,_,hg,hc⟩
  ·exact⟨none,0,rfl,aI _,bq _,.inl ⟨rfl,rfl⟩⟩
  ·exact⟨_,cap,rfl,hcap,hmax,.inr ⟨g,rfl,hg,hc⟩⟩
 obtain⟨p,cap,rfl,hcap,hmax,HP0⟩:=h';clear h;unfold maxLen at hmax;obtain⟨N,hN⟩:=eY l.length;have HN:=ah hN;rw[←hN] at hl hcap ⊢;clear hN;go_in
 go_wp2_with fail;go_loopw [5] (fun jv wr=>∃j:Nat,j≤N∧jv= .int .i64 j∧Hid (∀x∈l.take j,x.1<a)∧Below w.heap.size w wr∧Hid (xO wr w.heap.size a k)) (fun jv _=>N-(intOf jv).toNat);case atStart=>exact⟨0,bq _,by go_num,(fun x hx=>by simp at hx),jY,xO.new w a k _⟩
 case round=>
  obtain⟨j,hj,rfl,HLO,hbel,HX⟩:=hrel;have X:=HX.out;have zr:w.heap.size<wr.heap.size:=X.lt;have x0:=X.c0;have x1:=X.c1;have LJ:Hid ((l.take j).length=j):=(show _=_ by rw[bD,←HN.out];omega);have LD:Hid ((l.drop j).length=N-j):=(show _=_ by rw[bY,←HN.out]);by_cases hlt:j<N
  ·rcases HP0.out with⟨_,e0⟩|⟨g,rfl,hg,hc⟩
   ·omega
   have C:=ah hc;obtain⟨y,hy⟩: ∃y,l[j]?=some y:=⟨l[j]'(by rw[←HN.out];exact hlt),aA _⟩;obtain⟨y0,y1⟩:=y;obtain⟨p1,p2⟩:=C.out j y0 y1 hy;have r1:=(hbel.cell (p:=⟨g,j*2,none⟩) hg).trans p1;have gr:g<wr.heap.size:=om;have HY:=ah hy;clear hc p1 p2 hy;by_cases hya:y0<a
   ·have HLO2:Hid (∀x∈l.take (j+1),x.1<a):=take_lt HLO.out HY.out hya
    go_wp2;go_quiet (fail);go_wp2;go_roundw;case rel=>exact⟨j+1,om,by go_num,HLO2,below_drewN hbel _,(show xO _ _ _ _ from X.keep ((Keep.refl [] _).drewN _) sI)⟩
    case measure=>simp[intOf];omega
   ·have HP:Hid (rC a k l=l.take j++(a,k)::l.drop j):=Fw HLO.out (cut_at HA.out HNE.out HLO.out (fun x hx=>by
     have e:=aO (HY.out.symm.trans hx);rw[←e];show a≤y0;omega))
    have s1:Hid (∀w',Below w.heap.size w w'→Src w' (some ⟨g,0,none⟩) (l.take j)):=fun w' hb=>.inr ⟨g,0,rfl,fun i x y hi=>by
     have hij:i<j:=by have:=(au.1 hi).1;rw[LJ.out] at this;exact this
     rw[dH hij] at hi;rw[bK,hb.cell (p:=⟨g,i*2,none⟩) hg,hb.cell (p:=⟨g,i*2+1,none⟩) hg];exact C.out i x y hi⟩
    have s2:Hid (∀w',Below w.heap.size w w'→Src w' (some ⟨g,j*2,none⟩) (l.drop j)):=fun w' hb=>.inr ⟨g,j*2,rfl,fun i x y hi=>by
     rw[cO] at hi;have e1:j*2+i*2=(j+i)*2:=om;rw[e1,hb.cell (p:=⟨g,(j+i)*2,none⟩) hg,hb.cell (p:=⟨g,(j+i)*2+1,none⟩) hg];exact C.out _ x y hi⟩
    have hcj: ¬cap=j:=om;go_wp2;go_quiet (fail);obtain⟨wz,hwz⟩:=eY (wr.drewN nq);rw[←hwz];have hbz:Below w.heap.size w wz:=by rw[hwz];exact below_drewN hbel _
    have Xz:xO wz w.heap.size a k:=by rw[hwz];exact X.keep ((Keep.refl [] _).drewN _) sI
    have zz:w.heap.size<wz.heap.size:=Xz.lt;clear hwz hbel X x0 x1;go_wp2_with (first|(at_builtin;refine mq (base:=w.heap.size) (v:=.slice none 0 0) (l:=[]) (m:=l.take j) (p:=some ⟨g,0,none⟩) rfl (.tmp 23) (.tmp 26) rf rf j rf LJ.out (aT _ _ _ _) (s1.out _ hbz) (by rw[LJ.out];simp;try omega) om ?_;intro v1 w1 hown1 hg1;have hb1:Below w.heap.size w w1:=hbz.grown hg1 om (fun r hr=>by simp[Value.ownBlock] at hr);have hz1:w.heap.size<w1.heap.size:=(by have:=hg1.size;omega);have x0:=(hg1.block w.heap.size om (by simp[Value.ownBlock]));have cx0:w1.cell? ⟨w.heap.size,0,none⟩=some (.int .i64 a):=(dS x0).trans Xz.c0;have cx1:w1.cell? ⟨w.heap.size,1,none⟩=some (.int .i64 k):=(dS x0).trans Xz.c1)|(at_builtin;refine mq (base:=w.heap.size) (v:=v1) (l:=[]++l.take j) (m:=[(a,k)]) (p:=some ⟨w1.heap.size,0,none⟩) rfl (.tmp 28) (.tmp 30) rf rf 1 rf rf (hown1.alloc _) (FW _ _ _ _) (by simp[LJ.out];try omega) (by simp;try omega) ?_;intro v2 w2 hown2 hg2;have hb2:Below w.heap.size w w2:=(hb1.alloc hb1.size _).grown hg2 (by simp;omega) (fun r hr=>(hown1.lt r hr).1);have hz2:w1.heap.size<w2.heap.size:=(by have:=hg2.size;simp at this;omega))|(at_builtin;refine mq (base:=w.heap.size) (v:=v2) (l:=([]++l.take j)++[(a,k)]) (m:=l.drop j) (p:=some ⟨g,j*2,none⟩) rfl (.tmp 32) (.tmp 35) rf rf (N-j) rf (LD.out) hown2 (s2.out _ hb2) (by rw[LD.out];simp[LJ.out];try omega) om ?_;intro v3 w3 hown3 hg3;have hb3:Below w.heap.size w w3:=hb2.grown hg3 om (fun r hr=>(hown2.lt r hr).1)));go_ret;exact⟨_,rfl,by rw[HP.out];exact⟨(show World.ownsRow _ _ _ _ _ _ _ by simpa using hown3),hb3⟩⟩
  ·have ej:j=N:=by omega
   have HP:Hid (rC a k l=l.take j++(a,k)::l.drop j):=Fw HLO.out (fun x hx=>by
    have:l.drop j=[]:=gI (by rw[←HN.out];omega);rw[this] at hx;cases hx)
   have hd:Hid (l.drop j=[]):=gI (by rw[←HN.out];omega);have LD0:Hid ((l.drop j).length=0):=(show _=_ by rw[hd.out];rfl);rcases HP0.out with⟨rfl,e0⟩|⟨g,rfl,hg,hc⟩
   ·have ej0:j=0:=by omega
    subst e0;subst ej;have s1:Hid (∀w',Below w.heap.size w w'→Src w' none (l.take j)):=fun w' _=>.inl ⟨rfl,by rw[ej0];rfl⟩
    have s2:Hid (∀w',Src w' none (l.drop j)):=fun w'=>.inl ⟨rfl,hd.out⟩
    clear HP0;subst ej0;go_wp2;go_quiet (fail);obtain⟨wz,hwz⟩:=eY (wr.drewN nq);rw[←hwz];have hbz:Below w.heap.size w wz:=by rw[hwz];exact below_drewN hbel _
    have Xz:xO wz w.heap.size a k:=by rw[hwz];exact X.keep ((Keep.refl [] _).drewN _) sI
    have zz:w.heap.size<wz.heap.size:=Xz.lt;clear hwz hbel X x0 x1;go_wp2_with (first|(at_builtin;refine mq (base:=w.heap.size) (v:=.slice none 0 0) (l:=[]) (m:=l.take 0) (p:=none) rfl (.tmp 23) (.tmp 26) rf rf 0 rf LJ.out (aT _ _ _ _) (s1.out _ hbz) (by rw[LJ.out];simp;try omega) om ?_;intro v1 w1 hown1 hg1;have hb1:Below w.heap.size w w1:=hbz.grown hg1 om (fun r hr=>by simp[Value.ownBlock] at hr);have hz1:w.heap.size<w1.heap.size:=(by have:=hg1.size;omega);have x0:=(hg1.block w.heap.size om (by simp[Value.ownBlock]));have cx0:w1.cell? ⟨w.heap.size,0,none⟩=some (.int .i64 a):=(dS x0).trans Xz.c0;have cx1:w1.cell? ⟨w.heap.size,1,none⟩=some (.int .i64 k):=(dS x0).trans Xz.c1)|(at_builtin;refine mq (base:=w.heap.size) (v:=v1) (l:=[]++l.take 0) (m:=[(a,k)]) (p:=some ⟨w1.heap.size,0,none⟩) rfl (.tmp 28) (.tmp 30) rf rf 1 rf rf (hown1.alloc _) (FW _ _ _ _) (by simp[LJ.out];try omega) (by simp;try omega) ?_;intro v2 w2 hown2 hg2;have hb2:Below w.heap.size w w2:=(hb1.alloc hb1.size _).grown hg2 (by simp;omega) (fun r hr=>(hown1.lt r hr).1);have hz2:w1.heap.size<w2.heap.size:=(by have:=hg2.size;simp at this;omega))|(at_builtin;refine mq (base:=w.heap.size) (v:=v2) (l:=([]++l.take 0)++[(a,k)]) (m:=l.drop 0) (p:=none) rfl (.tmp 32) (.tmp 35) rf rf (0) rf (LD0.out) hown2 (s2.out _) (by rw[LD.out];simp[LJ.out];try omega) om ?_;intro v3 w3 hown3 hg3;have hb3:Below w.heap.size w w3:=hb2.grown hg3 om (fun r hr=>(hown2.lt r hr).1)));go_ret;exact⟨_,rfl,by rw[HP.out];exact⟨(show World.ownsRow _ _ _ _ _ _ _ by simpa using hown3),hb3⟩⟩
   ·have C:=ah hc
    have s1:Hid (∀w',Below w.heap.size w w'→Src w' (some ⟨g,0,none⟩) (l.take j)):=fun w' hb=>.inr ⟨g,0,rfl,fun i x y hi=>by
     have hij:i<j:=by have:=(au.1 hi).1;rw[LJ.out] at this;exact this
     rw[dH hij] at hi;rw[bK,hb.cell (p:=⟨g,i*2,none⟩) hg,hb.cell (p:=⟨g,i*2+1,none⟩) hg];exact C.out i x y hi⟩
    have s2:Hid (∀w' o,Src w' (some ⟨g,o,none⟩) (l.drop j)):=fun w' o=>.inr ⟨g,o,rfl,fun i x y hi=>by rw[hd.out] at hi;simp at hi⟩
    clear hc;subst ej;by_cases hcj:cap=j
    ·have hcj2:=hcj.symm
     subst hcj2;go_wp2;go_quiet (fail);obtain⟨wz,hwz⟩:=eY (wr.drewN nq);rw[←hwz];have hbz:Below w.heap.size w wz:=by rw[hwz];exact below_drewN hbel _
     have Xz:xO wz w.heap.size a k:=by rw[hwz];exact X.keep ((Keep.refl [] _).drewN _) sI
     have zz:w.heap.size<wz.heap.size:=Xz.lt;clear hwz hbel X x0 x1;go_wp2_with (first|(at_builtin;refine mq (base:=w.heap.size) (v:=.slice none 0 0) (l:=[]) (m:=l.take j) (p:=some ⟨g,0,none⟩) rfl (.tmp 23) (.tmp 26) rf rf j rf LJ.out (aT _ _ _ _) (s1.out _ hbz) (by rw[LJ.out];simp;try omega) om ?_;intro v1 w1 hown1 hg1;have hb1:Below w.heap.size w w1:=hbz.grown hg1 om (fun r hr=>by simp[Value.ownBlock] at hr);have hz1:w.heap.size<w1.heap.size:=(by have:=hg1.size;omega);have x0:=(hg1.block w.heap.size om (by simp[Value.ownBlock]));have cx0:w1.cell? ⟨w.heap.size,0,none⟩=some (.int .i64 a):=(dS x0).trans Xz.c0;have cx1:w1.cell? ⟨w.heap.size,1,none⟩=some (.int .i64 k):=(dS x0).trans Xz.c1)|(at_builtin;refine mq (base:=w.heap.size) (v:=v1) (l:=[]++l.take j) (m:=[(a,k)]) (p:=some ⟨w1.heap.size,0,none⟩) rfl (.tmp 28) (.tmp 30) rf rf 1 rf rf (hown1.alloc _) (FW _ _ _ _) (by simp[LJ.out];try omega) (by simp;try omega) ?_;intro v2 w2 hown2 hg2;have hb2:Below w.heap.size w w2:=(hb1.alloc hb1.size _).grown hg2 (by simp;omega) (fun r hr=>(hown1.lt r hr).1);have hz2:w1.heap.size<w2.heap.size:=(by have:=hg2.size;simp at this;omega))|(at_builtin;refine mq (base:=w.heap.size) (v:=v2) (l:=([]++l.take j)++[(a,k)]) (m:=l.drop j) (p:=some ⟨g,0,none⟩) rfl (.tmp 32) (.tmp 35) rf rf (0) rf (LD0.out) hown2 (s2.out _ _) (by rw[LD.out];simp[LJ.out];try omega) om ?_;intro v3 w3 hown3 hg3;have hb3:Below w.heap.size w w3:=hb2.grown hg3 om (fun r hr=>(hown2.lt r hr).1)));go_ret;exact⟨_,rfl,by rw[HP.out];exact⟨(show World.ownsRow _ _ _ _ _ _ _ by simpa using hown3),hb3⟩⟩
    ·have e00:j-j=0:=iL _
     go_wp2;go_quiet (fail);obtain⟨wz,hwz⟩:=eY (wr.drewN nq);rw[←hwz];have hbz:Below w.heap.size w wz:=by rw[hwz];exact below_drewN hbel _
     have Xz:xO wz w.heap.size a k:=by rw[hwz];exact X.keep ((Keep.refl [] _).drewN _) sI
     have zz:w.heap.size<wz.heap.size:=Xz.lt;clear hwz hbel X x0 x1;go_wp2_with (first|(at_builtin;refine mq (base:=w.heap.size) (v:=.slice none 0 0) (l:=[]) (m:=l.take j) (p:=some ⟨g,0,none⟩) rfl (.tmp 23) (.tmp 26) rf rf j rf LJ.out (aT _ _ _ _) (s1.out _ hbz) (by rw[LJ.out];simp;try omega) om ?_;intro v1 w1 hown1 hg1;have hb1:Below w.heap.size w w1:=hbz.grown hg1 om (fun r hr=>by simp[Value.ownBlock] at hr);have hz1:w.heap.size<w1.heap.size:=(by have:=hg1.size;omega);have x0:=(hg1.block w.heap.size om (by simp[Value.ownBlock]));have cx0:w1.cell? ⟨w.heap.size,0,none⟩=some (.int .i64 a):=(dS x0).trans Xz.c0;have cx1:w1.cell? ⟨w.heap.size,1,none⟩=some (.int .i64 k):=(dS x0).trans Xz.c1)|(at_builtin;refine mq (base:=w.heap.size) (v:=v1) (l:=[]++l.take j) (m:=[(a,k)]) (p:=some ⟨w1.heap.size,0,none⟩) rfl (.tmp 28) (.tmp 30) rf rf 1 rf rf (hown1.alloc _) (FW _ _ _ _) (by simp[LJ.out];try omega) (by simp;try omega) ?_;intro v2 w2 hown2 hg2;have hb2:Below w.heap.size w w2:=(hb1.alloc hb1.size _).grown hg2 (by simp;omega) (fun r hr=>(hown1.lt r hr).1);have hz2:w1.heap.size<w2.heap.size:=(by have:=hg2.size;simp at this;omega))|(at_builtin;refine mq (base:=w.heap.size) (v:=v2) (l:=([]++l.take j)++[(a,k)]) (m:=l.drop j) (p:=some ⟨g,j*2,none⟩) rfl (.tmp 32) (.tmp 35) rf rf (0) rf (LD0.out) hown2 (s2.out _ _) (by rw[LD.out];simp[LJ.out];try omega) om ?_;intro v3 w3 hown3 hg3;have hb3:Below w.heap.size w w3:=hb2.grown hg3 om (fun r hr=>(hown2.lt r hr).1)));go_ret;exact⟨_,rfl,by rw[HP.out];exact⟨(show World.ownsRow _ _ _ _ _ _ _ by simpa using hown3),hb3⟩⟩
def zK (X:List Nat) (w:World) (v:Value) (l:List (Int×Int)):Prop:=
 (v= .slice none 0 0∧l=[])∨∃g cap,v= .slice (some ⟨g,0,none⟩) l.length cap∧l.length≤cap∧cap≤maxLen∧g∉X∧g<w.heap.size∧RowC w g l
theorem zK.Sg {X:List Nat} {w:World} {v:Value} {l:List (Int×Int)} (h:zK X w v l):Jb 0 w v l:=by
 rcases h with h|⟨g,cap,h1,h2,h3,_,h5,h6⟩
 ·exact .inl h
 ·exact .inr ⟨g,cap,h1,h2,h3,bq _,h5,h6⟩
theorem zK.keep {X S:List Nat} {w w':World} {v:Value} {l:List (Int×Int)} (h:zK X w v l) (k:Keep S w w') (hs: ∀s∈S,s∈X∨w.heap.size≤s):zK X w' v l:=by
 rcases h with h|⟨g,cap,h1,h2,h3,h4,h5,h6⟩
 ·exact .inl h
 ·exact .inr ⟨g,cap,h1,h2,h3,h4,aC h5 k.size,h6.keep k h5 fun q=>by rcases hs g q with r|r;(·exact h4 r);(·omega)⟩
theorem zK.of {X:List Nat} {w w':World} {v:Value} {l:List (Int×Int)} (h:PI w w' v l) (hX: ∀x∈X,x<w.heap.size):zK X w' v l:=by
 rcases h.Sg with h|⟨g,cap,h1,h2,h3,h4,h5,h6⟩
 ·exact .inl h
 ·exact .inr ⟨g,cap,h1,h2,h3,fun q=>by have:=hX g q;omega,h5,h6⟩
theorem zK.more {X Y:List Nat} {w:World} {v:Value} {l:List (Int×Int)} (h:zK X w v l) (hY: ∀y∈Y,y∈X∨w.heap.size≤y):zK Y w v l:=by
 rcases h with h|⟨g,cap,h1,h2,h3,h4,h5,h6⟩
 ·exact .inl h
 ·exact .inr ⟨g,cap,h1,h2,h3,fun q=>by rcases hY g q with r|r;(·exact h4 r);(·omega),h5,h6⟩
theorem PI.isSlice {w w':World} {v:Value} {l:List (Int×Int)} (h:PI w w' v l): ∃p m c,v= .slice p m c:=by
 rcases h.Sg with⟨h,_⟩|⟨g,cap,h,_⟩
 ·exact⟨_,_,_,h⟩
 ·exact⟨_,_,_,h⟩
structure wS (X:List Nat) (w:World) (pm:Nat) (n:Int) (vF vT:Value) (F T:List (Int×Int)):Prop where
 lt:pm<w.heap.size
 mem:pm∈X
 c0:w.cell? ⟨pm,0,none⟩=some (.int .i64 n)
 c1:w.cell? ⟨pm,1,none⟩=some vF
 c2:w.cell? ⟨pm,2,none⟩=some vT
 f1:w.frozen? ⟨pm,1,none⟩=false
 f2:w.frozen? ⟨pm,2,none⟩=false
 rF:zK X w vF F
 rT:zK X w vT T
theorem wS.keep {X S:List Nat} {w w':World} {pm:Nat} {n:Int} {vF vT:Value} {F T:List (Int×Int)} (h:wS X w pm n vF vT F T) (k:Keep S w w') (hs: ∀s∈S,(s∈X∧s≠pm)∨w.heap.size≤s):wS X w' pm n vF vT F T:=by
 have hn:pm∉S:=fun q=>by rcases hs pm q with⟨_,r⟩|r;(·exact r rfl);(·have:=h.lt;omega)
 have hs': ∀s∈S,s∈X∨w.heap.size≤s:=fun s q=>(hs s q).imp And.left id
 exact⟨aC h.lt k.size,h.mem,(k.cell h.lt hn).trans h.c0,(k.cell h.lt hn).trans h.c1,(k.cell h.lt hn).trans h.c2,(k.frozen h.lt hn).trans h.f1,(k.frozen h.lt hn).trans h.f2,h.rF.keep k hs',h.rT.keep k hs'⟩
theorem wS.below {X:List Nat} {w w':World} {pm:Nat} {n:Int} {vF vT:Value} {F T:List (Int×Int)} (h:wS X w pm n vF vT F T) (k:Below w.heap.size w w'):wS X w' pm n vF vT F T:=
 h.keep (Keep.of (S:=[]) k) (fun _ q=>by cases q)
theorem zK.sub {X Y:List Nat} {w:World} {v:Value} {l:List (Int×Int)} (h:zK Y w v l) (hX: ∀x∈X,x∈Y):zK X w v l:=by
 rcases h with h|⟨g,cap,h1,h2,h3,h4,h5,h6⟩
 ·exact .inl h
 ·exact .inr ⟨g,cap,h1,h2,h3,fun q=>h4 (hX g q),h5,h6⟩
theorem wS.more {X Y:List Nat} {w:World} {pm:Nat} {n:Int} {vF vT:Value} {F T:List (Int×Int)} (h:wS X w pm n vF vT F T) (hm:pm∈Y) (hY: ∀y∈Y,y∈X∨w.heap.size≤y):wS Y w pm n vF vT F T:=
 ⟨h.lt,hm,h.c0,h.c1,h.c2,h.f1,h.f2,h.rF.more hY,h.rT.more hY⟩
theorem wS.sub {X Y:List Nat} {w:World} {pm:Nat} {n:Int} {vF vT:Value} {F T:List (Int×Int)} (h:wS Y w pm n vF vT F T) (hm:pm∈X) (hX: ∀x∈X,x∈Y):wS X w pm n vF vT F T:=
 ⟨h.lt,hm,h.c0,h.c1,h.c2,h.f1,h.f2,h.rF.sub hX,h.rT.sub hX⟩
theorem wS.setF {X:List Nat} {w:World} {pm:Nat} {n:Int} {vF vT v:Value} {F T F':List (Int×Int)} (h:wS X w pm n vF vT F T) (hv:zK X w v F'):wS X (w.setCell ⟨pm,1,none⟩ v) pm n v vT F' T:=by
 have k:Keep [pm] w (w.setCell ⟨pm,1,none⟩ v):=(Keep.refl _ _).setCell (.inl sI) _;have hs: ∀s∈[pm],s∈X∨w.heap.size≤s:=fun s q=>.inl (by rw[bL.1 q];exact h.mem)
 refine⟨by simpa[World.setCell] using h.lt,h.mem,?_,?_,?_,by rw[kX];exact h.f1,by rw[kX];exact h.f2,hv.keep k hs,h.rT.keep k hs⟩
 ·rw[kH _ om];exact h.c0
 ·exact kZ _ h.c1
 ·rw[kH _ om];exact h.c2
theorem wS.setT {X:List Nat} {w:World} {pm:Nat} {n:Int} {vF vT v:Value} {F T T':List (Int×Int)} (h:wS X w pm n vF vT F T) (hv:zK X w v T'):wS X (w.setCell ⟨pm,2,none⟩ v) pm n vF v F T':=by
 have k:Keep [pm] w (w.setCell ⟨pm,2,none⟩ v):=(Keep.refl _ _).setCell (.inl sI) _;have hs: ∀s∈[pm],s∈X∨w.heap.size≤s:=fun s q=>.inl (by rw[bL.1 q];exact h.mem)
 refine⟨by simpa[World.setCell] using h.lt,h.mem,?_,?_,?_,by rw[kX];exact h.f1,by rw[kX];exact h.f2,h.rF.keep k hs,hv.keep k hs⟩
 ·rw[kH _ om];exact h.c0
 ·rw[kH _ om];exact h.c1
 ·exact kZ _ h.c2
theorem wF.absent {n:Int} {F T:List (Int×Int)} {a k:Int} (k0:0≤k) (h:wF n F T (a,k+1)): ∀z∈F,z.1≠a+sz k:=by
 intro z hz e;have h6:=h.blk.2.2.1;simp only at h6;have s1:=qh k;have s2:=xU k0 om;have:=h.t.one (ak _ (av _ hz)) (aG ..) (p:=z.1) (DZ z) ⟨by show a≤z.1;omega,by show z.1<a+sz (k+1);omega⟩;have:=congrArg Prod.fst this;simp only at this;omega
theorem Wd {k m:Int} {a:Int} {F:List (Int×Int)} (h:k<m):uU (m-k).toNat a k F=uU (m-1-k).toNat a k (rC (a+sz (m-1)) (m-1) F):=by
 obtain⟨d,hd⟩: ∃d,(m-k).toNat=d+1:=⟨(m-k).toNat-1,om⟩;have e1:(m-1-k).toNat=d:=om;have e2:k+(d:Int)=m-1:=om;rw[hd,e1,uU,e2]
def bI:Option (Nat×(Int×Int))→Int
 |none=> -1
 |some (i,_)=>i
def Wh (X:List Nat) (pm:Nat) (n k:Int) (F T:List (Int×Int)) (w:World) (e:Ending) (w':World):Prop:=
 (nD k F=none∧e= .returned (.tuple #[.agg #[.int .i64 0,.int .i64 0],.bool false])∧Below w.heap.size w w')∨
   ∃x vF' vT',nD k F=some x∧e= .returned (.tuple #[.agg #[.int .i64 x.1,.int .i64 k],.bool true])∧wS X w' pm n vF' vT' (uz k x F) (rC x.1 k T)∧Keep [pm] w w'
theorem Tf {X:List Nat} (pm:Nat) (n:Int) (vF vT:Value) (F T:List (Int×Int)) (k:Int) (w:World) (h:wS X w pm n vF vT F T) (hX: ∀x∈X,x<w.heap.size) (hI:Inv n F T) (k0:0≤k):
 Calls prog 142 #[.pointer (some ⟨pm,0,none⟩),.int .i64 k] w (Wh X pm n k F T w):=by
 have HR:=ah h;have HI:=ah hI;have HX:=ah hX;have c1:=h.c1;have lp:=h.lt;have lF:=hI.lenF;have h': ∃p cap,vF= .slice p F.length cap∧Hid (F=[]∨∃g,p=some ⟨g,0,none⟩∧g<w.heap.size∧RowC w g F):=by
  rcases h.rF with⟨rfl,rfl⟩|⟨g,cap,rfl,_,_,_,hg,hc⟩
  ·exact⟨none,0,rfl,.inl rfl⟩
  ·exact⟨_,cap,rfl,.inr ⟨g,rfl,hg,hc⟩⟩
 obtain⟨p,cap,rfl,HP0⟩:=h';clear h hI hX;obtain⟨N,hN⟩:=eY F.length;have HN:=ah hN;rw[←hN] at lF HR c1;clear hN;go_in
 go_wp2_with fail;go_loopw [6,7] (fun bv iv wr=>∃(i:Nat) (b:Option (Nat×(Int×Int))),i≤N∧iv= .int .i64 i∧bv= .int .i64 (bI b)∧Hid (vX k (F.take i) b)∧Hid (xO wr w.heap.size 0 0)∧Below w.heap.size w wr) (fun _ iv _=>N-(intOf iv).toNat);case atStart=>exact⟨0,none,bq _,by go_num,rfl,Sb k,xO.new w 0 0 _,jY⟩
 case round=>
  obtain⟨i,b,hi,rfl,rfl,BT,L0,hbel⟩:=hrel;have zr:w.heap.size<wr.heap.size:=L0.out.lt;have cr:=(hbel.cell (p:=⟨pm,1,none⟩) lp).trans c1;have lpr:pm<wr.heap.size:=om;by_cases hlt:i<N
  ·rcases HP0.out with e0|⟨g,rfl,hg,hc⟩
   ·have:=HN.out;rw[e0] at this;simp at this;omega
   obtain⟨y,hy⟩: ∃y,F[i]?=some y:=⟨F[i]'(by rw[←HN.out];exact hlt),aA _⟩;have etk:F.take (i+1)=F.take i++[y]:=by rw[bR,hy];rfl
   have ltk:(F.take i).length=i:=by rw[bD,←HN.out];omega
   obtain⟨y0,y1⟩:=y;obtain⟨p1,p2⟩:=hc i y0 y1 hy;have r2:=(hbel.cell (p:=⟨g,i*2+1,none⟩) hg).trans p2;have gr:g<wr.heap.size:=om;have ETK:=ah etk;have LTK:=ah ltk;have HY:=ah hy;clear p1 p2 hy etk ltk;by_cases hk:k≤y1
   ·have hkd:decide (k≤y1)=true:=dQt hk
    match b,BT with
    |none,BT=>
     have bt:vX k (F.take (i+1)) (some (i,(y0,y1))):=by
      have:=Bd BT.out (y:=(y0,y1)) hk (fun _ _ e=>by cases e);rwa [←ETK.out,LTK.out] at this
     have BT2:=ah bt;clear bt hc;simp only[bI];go_wp2;go_quiet (fail);go_wp2;go_roundw;case rel=>exact⟨i+1,some (i,(y0,y1)),om,by go_num,rfl,BT2,(show xO _ _ _ _ from L0.out.keep ((Keep.refl [] _).drewN _) sI),below_drewN hbel _⟩
     case measure=>simp[intOf];omega
    |some (q,x),BT=>
     obtain⟨hq,_⟩:=BT.out;obtain⟨x0,x1⟩:=x;have hqi:q<i:=by have:=(au.1 hq).1;rw[LTK.out] at this;exact this
     rw[dH hqi] at hq;obtain⟨p1,p2⟩:=hc q x0 x1 hq;have r4:=(hbel.cell (p:=⟨g,q*2+1,none⟩) hg).trans p2;have hq0: ¬(q:Int)<0:=om;have hqN:q<N:=om;simp only[bI];by_cases hx:y1<x1
     ·have bt:vX k (F.take (i+1)) (some (i,(y0,y1))):=by
       have:=Bd BT.out (y:=(y0,y1)) hk (fun _ _ e=>by cases e;exact hx);rwa [←ETK.out,LTK.out] at this
      have BT2:=ah bt;clear bt hc hq p1 p2;go_wp2;go_quiet (fail);go_wp2;go_roundw;case rel=>exact⟨i+1,some (i,(y0,y1)),om,by go_num,rfl,BT2,(show xO _ _ _ _ from L0.out.keep ((Keep.refl [] _).drewN _) sI),below_drewN hbel _⟩
      case measure=>simp[intOf];omega
     ·have bt:vX k (F.take (i+1)) (some (q,(x0,x1))):=by
       rw[ETK.out];exact Bc BT.out (.inr ⟨q,(x0,x1),rfl,by show x1≤y1;omega⟩)
      have BT2:=ah bt;clear bt hc hq p1 p2;go_wp2;go_quiet (fail);go_wp2;go_roundw;case rel=>exact⟨i+1,some (q,(x0,x1)),om,by go_num,rfl,BT2,(show xO _ _ _ _ from L0.out.keep ((Keep.refl [] _).drewN _) sI),below_drewN hbel _⟩
      case measure=>simp[intOf];omega
   ·have hkd:decide (k≤y1)=false:=dQf hk
    have bt:vX k (F.take (i+1)) b:=by
     rw[ETK.out];exact Bc BT.out (.inl (by show y1<k;omega))
    have BT2:=ah bt;clear bt hc;go_wp2;go_quiet (fail);go_wp2;go_roundw;case rel=>exact⟨i+1,b,om,by go_num,rfl,BT2,(show xO _ _ _ _ from L0.out.keep ((Keep.refl [] _).drewN _) sI),below_drewN hbel _⟩
    case measure=>simp[intOf];omega
  ·have ei:i=N:=by omega
   have bt:vX k F b:=by have:=BT.out;rwa [ei,HN.out,bU] at this
   have l00:=L0.out.c0;have l01:=L0.out.c1;have l0f:=L0.out.f0;have l1f:=L0.out.f1;match b,bt with
   |none,bt=>
    have hb:=Jj bt;have HBN:=ah hb;clear bt hb ei;simp only[bI];go_wp2;have e0:=kZ (.int .i64 0) l00;have e1:=kZ (w:=wr.setCell ⟨w.heap.size,0,none⟩ (.int .i64 0)) (.int .i64 0) ((kH _ om).trans l01);have e2:=(kH (w:=wr.setCell ⟨w.heap.size,0,none⟩ (.int .i64 0)) (g:=w.heap.size) (o:=1) (o':=0) (.int .i64 0) om).trans e0;exact bodyPost_ret (v:=.tuple #[.agg #[.int .i64 0,.int .i64 0],.bool false]) (by simp[e0,e1,e2,results,Tryz.results142,go_sem]) rfl (Or.inl ⟨HBN.out,rfl,jY⟩)
   |some (q,x),bt=>
    obtain⟨hq,hbest⟩:=bt;obtain⟨a,m0⟩:=x;have hqN:q<N:=by rw[HN.out];exact(au.1 hq).1
    rcases HP0.out with e0|⟨g,rfl,hg,hc⟩
    ·have:=HN.out;rw[e0] at this;simp at this;omega
    obtain⟨p1,p2⟩:=hc q a m0 hq;have r1:=(hbel.cell (p:=⟨g,q*2,none⟩) hg).trans p1;have r2:=(hbel.cell (p:=⟨g,q*2+1,none⟩) hg).trans p2;have gr:g<wr.heap.size:=om;obtain⟨hxF,hkx⟩:=oG hbest;have hrx:=HI.out.rngF hxF;simp only at hkx hrx;have ih:=ah (HI.out.hand hxF);have edel:=Pz HI.out.fa hq;simp only at edel;have ED:=ah edel;have HBE:=ah hbest;have TI1:=ah (HI.out.take k0 hbest);have fr1:=(hbel.frozen (p:=⟨pm,1,none⟩) lp).trans HR.out.f1;have qz: ¬(q:Int)<0:=om;have pmX:=HR.out.mem;have HRr:=(HR.out.more (Y:=wr.heap.size::w.heap.size::X) (by simp[pmX]) (fun y hy=>by simp at hy;rcases hy with rfl|rfl|hy;(·right;omega);(·right;omega);(·left;exact hy))).below hbel;have RTr:=HRr.rF.Sg.below (w':=wr.alloc (.cells #[.int .i64 a,.int .i64 m0] 213)) jY;have WO:=ah (Te _ F q _ RTr (by rw[←HN.out];exact hqN) (by rw[←HN.out];exact lF));have HRr2:=ah HRr;clear hq hbest hc p1 p2 edel hxF RTr HRr ei;simp only[bI];go_wp2_with fail;refine WO.out.mono ?_;rintro e w1 ⟨v1,rfl,ho⟩;obtain⟨s1,s2,s3,rfl⟩:=ho.isSlice;clear WO;have hb1:=ho.2;have z1:=hb1.size;simp at z1;have bel1:Below wr.heap.size wr w1:=jY;have X1:=(xO.new wr a m0 213).below hb1 sI;have R1:=HRr2.out.below bel1;have hX1: ∀y∈wr.heap.size::w.heap.size::X,y<(wr.alloc (.cells #[.int .i64 a,.int .i64 m0] 213)).heap.size:=fun y hy=>by
     simp at hy ⊢;rcases hy with rfl|rfl|hy
     ·omega
     ·omega
     ·have:=HX.out y hy;omega
    have row1:=zK.of ho hX1;rw[←ED.out] at row1;have R2:=R1.setF row1;have L1:=L0.out.below bel1 om;have np:pm≠wr.heap.size:=om;have nl:pm≠w.heap.size:=om;have ks:Keep [pm] w1 (w1.setCell ⟨pm,1,none⟩ (.slice s1 s2 s3)):=(Keep.refl _ _).setCell (.inl sI) _;have HX2:=ah (X1.keep ks (by simpa using np.symm));have HL2:=ah (L1.keep ks (by simpa using nl.symm));have HR2:=ah R2;have K2:Keep [pm] w (w1.setCell ⟨pm,1,none⟩ (.slice s1 s2 s3)):=((Keep.of hbel).trans (S':=[]) (Keep.of bel1) (fun _ q=>by cases q)).then ks;have q1:=R1.c1;have q2:=R1.f1;have q3:=R1.lt;have cr1:=(bel1.cell (p:=⟨pm,1,none⟩) lpr).trans cr;have DF2:=ah (show uU (m0-k).toNat a k (tZ a F)=uz k (a,m0) F from rfl);clear ho row1 R1 R2 L1 X1 hX1 HRr2 ks l00 l01 l0f l1f r1 r2 fr1;go_wp2;obtain⟨w2,hw2⟩:=eY (w1.setCell ⟨pm,1,none⟩ (.slice s1 s2 s3));rw[←hw2] at HX2 HL2 HR2 K2 ⊢;have z2:wr.heap.size<w2.heap.size:=by have:=HX2.out.lt;omega
    clear hw2 q1 q2 q3 cr1 cr;obtain⟨wo,rfl⟩: ∃wo:World,wo=wr:=⟨_,rfl⟩;obtain⟨Y,hY⟩:=eY (wo.heap.size::w.heap.size::X);rw[←hY] at HR2;have HY:=ah hY;clear hY;go_loopg [71] 7 (fun gg _ wr'=>∃(q:Int) (F':List (Int×Int)) (vF':Value),(q-k).toNat<gg∧k≤q∧q≤6∧Hid (wS Y wr' pm n vF' vT F' T)∧Hid (wF n F' T (a,q))∧Hid (uU (q-k).toNat a k F'=uz k (a,m0) F)∧Hid (xO wr' wo.heap.size a q)∧Hid (xO wr' w.heap.size 0 0)∧Keep [pm] w wr')
    case atStart=>exact⟨m0,tZ a F,_,om,hkx,om,HR2,ih,DF2,HX2,HL2,K2⟩
    case round=>
     clear hlt;obtain⟨q',F',vF',hgg,hkq,hq6,HRq,IHq,DFq,HXq,HLq,Kq⟩:=hrel;clear HX2 HL2 HR2 K2 DF2 ih;have x0:=HXq.out.c0;have x1:=HXq.out.c1;have x2:=HXq.out.f0;have x3:=HXq.out.f1;have xl:=HXq.out.lt;have zr:=Kq.size;by_cases hlt:k<q'
     ·have hcut:=wF.cut (n:=n) (F:=F') (T:=T) (a:=a) (k:=q'-1) om (by rw[show q'-1+1=q' by omega];exact IHq.out)
      have habs:=wF.absent (n:=n) (F:=F') (T:=T) (a:=a) (k:=q'-1) om (by rw[show q'-1+1=q' by omega];exact IHq.out);have hblk:=IHq.out.blk;have hlen:=tN IHq.out.fa (fun p hp=>IHq.out.rng (ak _ (av _ hp)));have hra:=IHq.out.rng (aG ..);simp only at hra;obtain⟨m1,m2,_⟩:=Pt (a:=a) (k:=q'-1) om om (by rw[show q'-1+1=q' by omega];exact hblk.2.2.2);have BO:=ah (fun w=>Sc a (q'-1) w hra.1 om om om m1);simp only[m2] at BO;have ks:Keep [wo.heap.size] wr ((wr.setCell ⟨wo.heap.size,0,none⟩ (.int .i64 a)).setCell ⟨wo.heap.size,1,none⟩ (.int .i64 (q'-1))):=(Keep.refl _ _).lq (.inl sI) _ _;have nop:wo.heap.size≠pm:=om;have R12:=HRq.out.keep ks (fun s hs=>by rw[bL.1 hs];exact .inl ⟨by rw[HY.out];simp,nop⟩);have X12:=HXq.out.store a (q'-1);have L12:=HLq.out.keep ks (by simp;omega);have K12:Keep [pm] w ((wr.setCell ⟨wo.heap.size,0,none⟩ (.int .i64 a)).setCell ⟨wo.heap.size,1,none⟩ (.int .i64 (q'-1))):=Kq.lq (b:=wo.heap.size) (.inr om) _ _;have CUT:=ah hcut;have ABS:=ah habs;have FA:=ah IHq.out.fa;clear hcut habs hblk hra m1 m2 IHq;go_wp2_with fail;obtain⟨w12,hw12⟩:=eY ((wr.setCell ⟨wo.heap.size,0,none⟩ (.int .i64 a)).setCell ⟨wo.heap.size,1,none⟩ (.int .i64 (q'-1)));rw[←hw12] at R12 X12 L12 K12 ⊢;clear hw12 ks x0 x1 x2 x3;have lp12:pm<w12.heap.size:=R12.lt;have lo12:wo.heap.size<w12.heap.size:=X12.lt;have BB0:Hid (∀w':World,Below w12.heap.size w12 w'→w'.cell? ⟨pm,1,none⟩=some vF'):=fun w' hb=>(hb.cell (p:=⟨pm,1,none⟩) lp12).trans R12.c1
      have BB1:Hid (∀w':World,Below w12.heap.size w12 w'→w'.cell? ⟨wo.heap.size,0,none⟩=some (.int .i64 a)):=fun w' hb=>(hb.cell (p:=⟨wo.heap.size,0,none⟩) lo12).trans X12.c0
      have BB2:Hid (∀w':World,Below w12.heap.size w12 w'→w'.cell? ⟨wo.heap.size,1,none⟩=some (.int .i64 (q'-1))):=fun w' hb=>(hb.cell (p:=⟨wo.heap.size,1,none⟩) lo12).trans X12.c1
      have BBF:Hid (∀w':World,Below w12.heap.size w12 w'→w'.frozen? ⟨pm,1,none⟩=false):=fun w' hb=>(hb.frozen (p:=⟨pm,1,none⟩) lp12).trans R12.f1
      have WI:Hid (∀w':World,Below w12.heap.size w12 w'→Calls prog 170 #[vF',.agg #[.int .i64 (a+sz (q'-1)),.int .i64 (q'-1)]] w' fun e w''=>∃v',e= .returned v'∧PI w' w'' v' (rC (a+sz (q'-1)) (q'-1) F')):=
       fun w' hb=>W9 vF' F' _ _ w' ((R12.below hb).rF.Sg) FA.out ABS.out hlen
      have y0:=R12.c1;have y1:=X12.c0;have y2:=X12.c1;go_region_with (first
       |(go_at_call 171;refine(BO.out _).mono ?_;rintro e wa ⟨rfl,hba⟩;have cba:Below w12.heap.size w12 wa:=((aL _ _).drew).trans (hba.mono sI);have xa0:=BB0.out _ cba;have xa1:=BB1.out _ cba;have xa2:=BB2.out _ cba)
       |(go_at_call 170;refine(WI.out _ cba).mono ?_;rintro e wb ⟨vb,rfl,hob⟩;obtain⟨t1,t2,t3,rfl⟩:=hob.isSlice;have cbb:Below w12.heap.size w12 wb:=cba.trans (hob.2.mono cba.size);have xb0:=BB0.out _ cbb;have xb1:=BB1.out _ cbb;have xb2:=BB2.out _ cbb;have xbf:=BBF.out _ cbb))
      all_goals
       have hXY: ∀y∈Y,y<wa.heap.size:=fun y hy=>by
        rw[HY.out] at hy;simp at hy;have:=cba.size;rcases hy with rfl|rfl|hy
        ·omega
        ·omega
        ·have:=HX.out y hy;omega
       have rowb:=zK.of hob hXY;have R13:=ah ((R12.below cbb).setF rowb);have k13:Keep [pm] w12 (wb.setCell ⟨pm,1,none⟩ (.slice t1 t2 t3)):=(Keep.of cbb).setCell (.inl sI) _;have X13:=ah (X12.keep k13 (by simpa using nop));have L13:=ah (L12.keep k13 (by simp;omega));have K13:=ah (K12.then k13);clear rowb k13 R12 X12 L12 hob hba cba cbb hXY;go_wp2;go_roundg ((q'-1-k).toNat+1)
       case measure=>omega
       case rel=>exact⟨q'-1,_,_,om,om,om,R13,CUT,(show uU _ _ _ _=_ by rw[←DFq.out,Wd hlt]),X13,L13,K13.out⟩
     ·have eq:q'=k:=by omega
      subst eq;have hF:F'=uz q' (a,m0) F:=by have:=DFq.out;rwa [show(q'-q').toNat=0 by omega] at this
      have hne:=fun z hz=>IHq.out.other (z:=z) (aj F' hz)
      have hlen:=tN IHq.out.ta (fun p hp=>IHq.out.rng (ak _ (aj _ hp)));have NE:=ah hne;have TA:=ah IHq.out.ta;have R12:=HRq.out;have X12:=HXq.out;have L12:=HLq.out;rw[hF] at R12;have nop:wo.heap.size≠pm:=om;have now:w.heap.size≠pm:=om;have lp12:pm<wr.heap.size:=R12.lt;have BB0:Hid (∀w':World,Below wr.heap.size wr w'→w'.cell? ⟨pm,2,none⟩=some vT):=fun w' hb=>(hb.cell (p:=⟨pm,2,none⟩) lp12).trans R12.c2
      have BB1:Hid (∀w':World,Below wr.heap.size wr w'→w'.cell? ⟨wo.heap.size,0,none⟩=some (.int .i64 a)):=fun w' hb=>(hb.cell (p:=⟨wo.heap.size,0,none⟩) xl).trans X12.c0
      have BB2:Hid (∀w':World,Below wr.heap.size wr w'→w'.cell? ⟨wo.heap.size,1,none⟩=some (.int .i64 q')):=fun w' hb=>(hb.cell (p:=⟨wo.heap.size,1,none⟩) xl).trans X12.c1
      have BBF:Hid (∀w':World,Below wr.heap.size wr w'→w'.frozen? ⟨pm,2,none⟩=false):=fun w' hb=>(hb.frozen (p:=⟨pm,2,none⟩) lp12).trans R12.f2
      have WI:Hid (∀w':World,Below wr.heap.size wr w'→Calls prog 170 #[vT,.agg #[.int .i64 a,.int .i64 q']] w' fun e w''=>∃v',e= .returned v'∧PI w' w'' v' (rC a q' T)):=
       fun w' hb=>W9 vT T _ _ w' ((R12.below hb).rT.Sg) TA.out NE.out hlen
      have y0:=R12.c2;have hnl: ¬q'<q':=om;clear hne hF IHq DFq x2 x3;go_wp2_with fail;go_region_with (first
       |(go_at_call 170;refine(WI.out _ ((aL _ _).drew)).mono ?_;rintro e wb ⟨vb,rfl,hob⟩;obtain⟨t1,t2,t3,rfl⟩:=hob.isSlice;have cbb:Below wr.heap.size wr wb:=((aL _ _).drew).trans (hob.2.mono sI);have xb0:=BB0.out _ cbb;have xb1:=BB1.out _ cbb;have xb2:=BB2.out _ cbb;have xbf:=BBF.out _ cbb))
      all_goals
       have hXY: ∀y∈Y,y<wr.drew.heap.size:=fun y hy=>by
        rw[HY.out] at hy;simp at hy ⊢;rcases hy with rfl|rfl|hy
        ·omega
        ·omega
        ·have:=HX.out y hy;omega
       have rowb:=zK.of hob hXY;have R13:=(R12.below cbb).setT rowb;have k13:Keep [pm] wr (wb.setCell ⟨pm,2,none⟩ (.slice t1 t2 t3)):=(Keep.of cbb).setCell (.inl sI) _;have X13:=X12.keep k13 (by simpa using nop);have L13:=L12.keep k13 (by simpa using now);have K13:=Kq.then k13;obtain⟨w13,hw13⟩:=eY (wb.setCell ⟨pm,2,none⟩ (.slice t1 t2 t3));rw[←hw13] at R13 X13 L13 K13 ⊢;have z0:=X13.c0;have z1:=X13.c1;have l0:=L13.c0;have l1:=L13.c1;have l2:=L13.f0;have l3:=L13.f1;have ks:Keep [w.heap.size] w13 ((w13.setCell ⟨w.heap.size,0,none⟩ (.int .i64 a)).setCell ⟨w.heap.size,1,none⟩ (.int .i64 q')):=(Keep.refl _ _).lq (.inl sI) _ _;have R14:=(R13.keep ks (fun s hs=>by rw[bL.1 hs];exact .inl ⟨by rw[HY.out];simp,now⟩)).sub pmX (fun x hx=>by rw[HY.out];simp[hx]);have HR14:=ah R14;have L14:=L13.store a q';have e0:=L14.c0;have e1:=L14.c1;have K14:=ah (K13.lq (b:=w.heap.size) (.inr (aI _)) (.int .i64 a) (.int .i64 q'));clear rowb R12 X12 L12 hob cbb hXY R13 X13 L13 R14 L14 hw13 ks k13;go_wp2;have e2:=kZ (.int .i64 a) l0;exact bodyPost_ret (v:=.tuple #[.agg #[.int .i64 a,.int .i64 q'],.bool true]) (by simp[e0,e1,e2,results,Tryz.results142,go_sem]) rfl (Or.inr ⟨(a,m0),_,_,HBE.out,rfl,HR14.out,K14.out⟩)
theorem JO {X:List Nat} (n:Int) (w:World) (n1:1≤n) (n2:n≤256) (hX: ∀x∈X,x<w.heap.size):
 Calls prog 92 #[.int .i64 n] w fun e w'=>∃pm v,e= .returned (.pointer (some ⟨pm,0,none⟩))∧wS (pm::X) w' pm n v (.slice none 0 0) (wm 0 n) []∧w.heap.size≤pm∧Below w.heap.size w w':=by
 have HC:=ah (Sm 0 n w om om om);have HX:=ah hX;clear hX;go_in
 go_wp2_with fail;refine HC.out.mono ?_;rintro e w1 ⟨v,rfl,ho⟩;have z1:=ho.2.size;have hb1:=ho.2;have row:=zK.of ho HX.out;obtain⟨t1,t2,t3,rfl⟩:=ho.isSlice;have HR:=ah row;clear row ho HC;go_wp2;go_ret;refine⟨_,.slice t1 t2 t3,rfl,⟨sI,sI,?_,?_,?_,?_,?_,?_,.inl ⟨rfl,rfl⟩⟩,z1,jY⟩
 ·rw[bE _ _ _ _ sI];rfl
 ·rw[bE _ _ _ _ sI];rfl
 ·rw[bE _ _ _ _ sI];rfl
 ·exact cZ _ _ _ _ sI
 ·exact cZ _ _ _ _ sI
 ·exact(HR.out.more (Y:=w1.heap.size::X) (fun y hy=>by simp at hy;rcases hy with rfl|hy;(·right;omega);(·left;exact hy))).keep ((Keep.refl [] _).alloc _) (fun s hs=>by cases hs)
theorem Wi {F:List (Int×Int)} {i:Nat} {z:Int×Int} (h:F[i]?=some z):oJ (F.take (i+1))=oJ (F.take i)+sz z.2:=by
 rw[bR,h];show oJ (F.take i++[z])=_;rw[xX];simp[oJ]
theorem Ab (F:List (Int×Int)) (i:Nat):0≤oJ (F.take i)∧oJ (F.take i)≤oJ F:=by
 have h:=xX (F.take i) (F.drop i);rw[bX] at h;have:=p9 (F.take i);have:=p9 (F.drop i);omega
theorem Ib {X:List Nat} (pm:Nat) (n:Int) (vF vT:Value) (F T:List (Int×Int)) (w:World) (h:wS X w pm n vF vT F T) (hI:Inv n F T):
 Calls prog 143 #[.pointer (some ⟨pm,0,none⟩)] w fun e w'=>e= .returned (.int .i64 (oJ F))∧Below w.heap.size w w':=by
 have c1:=h.c1;have lp:=h.lt;have lF:=hI.lenF;have sF:=hI.sumF;have n2:=hI.n2;have HI:=ah hI;have h': ∃p cap,vF= .slice p F.length cap∧Hid (∀j a k,F[j]?=some (a,k)→∃g,p=some ⟨g,0,none⟩∧g<w.heap.size∧w.cell? ⟨g,j*2+1,none⟩=some (.int .i64 k)):=by
  rcases h.rF with⟨rfl,rfl⟩|⟨g,cap,rfl,_,_,_,hg,hc⟩
  ·exact⟨none,0,rfl,fun j a k hj=>by simp at hj⟩
  ·exact⟨_,cap,rfl,fun j a k hj=>⟨g,rfl,hg,(hc j a k hj).2⟩⟩
 obtain⟨p,cap,rfl,HP0⟩:=h';obtain⟨N,hN⟩:=eY F.length;have HN:=ah hN;rw[←hN] at lF c1;clear h hI hN;go_in
 go_wp2_with fail;go_loopw [3,4] (fun sv iv wr=>∃i:Nat,i≤N∧iv= .int .i64 i∧sv= .int .i64 (oJ (F.take i))∧Below w.heap.size w wr) (fun _ iv _=>N-(intOf iv).toNat);case atStart=>exact⟨0,bq _,by go_num,by simp[oJ],aL _ _⟩
 case round=>
  obtain⟨i,hi,rfl,rfl,hbel⟩:=hrel;have hsb:=Ab F i;have zr:=hbel.size;have cr:=(hbel.cell (p:=⟨pm,1,none⟩) lp).trans c1;have lpr:pm<wr.heap.size:=om;by_cases hlt:i<N
  ·obtain⟨y,hy⟩: ∃y,F[i]?=some y:=⟨F[i]'(by rw[←HN.out];exact hlt),aA _⟩
   obtain⟨a,k⟩:=y;obtain⟨g,rfl,hg,r2'⟩:=HP0.out i a k hy;have r2:=(hbel.cell (p:=⟨g,i*2+1,none⟩) hg).trans r2';have gr:g<wr.heap.size:=om;have hst:=Wi hy;have hrg:=HI.out.rngF (aF hy);have hsb2:=Ab F (i+1);simp only at hrg hst;obtain⟨s1,s2⟩:=xS hrg.2.2.1 hrg.2.2.2;have PA:=ah (fun w=>rR k w hrg.2.2.1 om);have ST:=ah hst;clear hy hst r2';go_wp2_with (go_at_call 153;refine(PA.out _).mono ?_;rintro e w' ⟨rfl,rfl⟩);go_roundw;case rel=>exact⟨i+1,om,by go_num,by rw[ST.out],hbel⟩
   case measure=>simp[intOf];omega
  ·have ei:i=N:=by omega
   have hfin:oJ (F.take i)=oJ F:=by rw[ei,HN.out,bU]
   have HF:=ah hfin;clear hfin ei;go_wp2;go_ret;exact⟨by simp[HF.out],hbel⟩
theorem Qo {base:Nat} {v:Value} {l m:List (Int×Int)} {w:World} {p:Option Addr} {c:Nat} {ops:Array Oper} {o:Oper} {a:Act} {K:Act→World→Prop} {Q:Exit→Act→World→Prop} {F:Prop} (hgd:o.guard=none) (s x:Operand)
 (ho:o.op= .call {callee:=.builtin .append,args:=#[s,x],argTypes:=#[235,235]}) (hv:a.eval s=v) (mn:Nat) (hx:a.eval x= .slice p mn c) (hmn:m.length=mn)
 (hown:w.ownsRow base 213 2 v l.length (l8 l)) (hs:Src w p m) (hl:l.length+m.length≤65536) (hb:base≤w.heap.size)
 (h: ∀q k w',w'.ownsRow base 213 2 (.slice q (l++m).length k) (l++m).length (l8 (l++m))→w.grownBy w' v.ownBlock→K (a.put o.dst (.slice q (l++m).length k)) w'):
 if Region.wanted o (yielded ops a.tmps)=true then Oper.wp prog o a w K Q else F:=by
 subst hmn;have hw:Region.wanted o (yielded ops a.tmps)=true:=by simp[Region.wanted,hgd]
 rw[if_pos hw];obtain⟨v',w',hrun,h2,h3⟩:=UE (w:=w) o.type hown hs hl hb (c:=c);have hf: ∃q k,v'= .slice q (l++m).length k:=by
  rcases h2.2 with⟨e,e2⟩|⟨g',cap',cur,e,_⟩
  ·exact⟨none,0,by rw[e,e2]⟩
  ·exact⟨_,_,e⟩
 obtain⟨q,k,rfl⟩:=hf;unfold Oper.wp execOp;simp only[ho,resolve,invoke,builtin,fH,fQ,dZ,eD,bH,eu,hv,hx,hrun];exact h q k w' h2 h3
theorem zK.src {X:List Nat} {w:World} {v:Value} {l:List (Int×Int)} (h:zK X w v l): ∃p c,v= .slice p l.length c∧Src w p l:=by
 rcases h with⟨rfl,rfl⟩|⟨g,cap,rfl,_,_,_,_,hc⟩
 ·exact⟨none,0,rfl,.inl ⟨rfl,rfl⟩⟩
 ·exact⟨some ⟨g,0,none⟩,cap,rfl,.inr ⟨g,0,rfl,fun j a k hj=>by simpa using hc j a k hj⟩⟩
def OwnPost (X:List Nat) (n:Int) (F T:List (Int×Int)) (w:World) (e:Ending) (w':World):Prop:=
 ∃(m:Nat) (vF vT:Value),e= .returned (.pointer (some ⟨m,0,none⟩))∧wS (m::X) w' m n vF vT F T∧w.heap.size≤m∧Below w.heap.size w w'
theorem own_ok {X:List Nat} (pm:Nat) (n:Int) (vF vT:Value) (F T:List (Int×Int)) (w:World) (h:wS X w pm n vF vT F T) (hX: ∀x∈X,x<w.heap.size) (hF:F.length≤256) (hT:T.length≤256):
 Calls prog 141 #[.pointer (some ⟨pm,0,none⟩)] w (OwnPost X n F T w):=by
 have c0:=h.c0;have c1:=h.c1;have c2:=h.c2;have lp:=h.lt;obtain⟨pF,kF,rfl,sF⟩:=h.rF.src;obtain⟨pT,kT,rfl,sT⟩:=h.rT.src;have SF:Hid (∀W,Keep [] w W→Src W pF F):=fun W k=>by
  obtain⟨p,c,e,s⟩:=(h.rF.keep k (fun s q=>by cases q)).src;injection e with e1 _ _;rw[e1];exact s
 have ST:Hid (∀W,Keep [] w W→Src W pT T):=fun W k=>by
  obtain⟨p,c,e,s⟩:=(h.rT.keep k (fun s q=>by cases q)).src;injection e with e1 _ _;rw[e1];exact s
 have ST5:Hid (∀W,Below w.heap.size w W→Src W pT T):=fun W k=>ST.out W (Keep.of k)
 have L0:=ah (jR.mk_ w [.int .i64 n,.slice none 0 0,.slice none 0 0] 242 rfl);have hbw:Hid (Below w.heap.size w (w.alloc (.cells #[.int .i64 n,.slice none 0 0,.slice none 0 0] 242)).drew):=jY;clear h sF sT;go_in
 go_wp2_with fail;go_region_law (refine Qo (base:=w.heap.size+1) (v:=.slice none 0 0) (l:=[]) (m:=F) rfl (.tmp 14) (.tmp 18) rf rf F.length rf rfl (aT _ _ _ _) (SF.out _ (kep (Keep.refl _ _))) (by simp;omega) sI ?_;intro q1 k1 w4 kV hg4;have B4:Below (w.heap.size+1) _ w4:=(aL _ _).grown hg4 sI (fun r hr=>by simp[Value.ownBlock] at hr);have M4:=(L0.out.mP).below B4 om;have x1:=M4.gC 1;have x2:=M4.gC 2;have f1:=M4.f 1 sI;have f2:=M4.f 2 sI;have ml:=M4.lt)
 all_goals
  have K4:Below w.heap.size w w4:=hbw.out.trans (B4.mono om);have z4:=B4.size;simp at z4;have HM4:=ah (M4.store 1 (.slice q1 F.length k1) sI);have hlt4:=ml;have D2:=(K4.cell (p:=⟨pm,2,none⟩) lp).trans c2;have HR4:=ah (show zK (w.heap.size::X) w4 (.slice q1 F.length k1) F from zK.of (w:=(w.alloc (.cells #[.int .i64 n,.slice none 0 0,.slice none 0 0] 242)).drew) ⟨by simpa using kV,by simpa using B4⟩ (fun x hx=>by simp at hx;rcases hx with rfl|hx;(·simp);(·have:=hX x hx;simp;omega)));clear M4 kV hg4 x1 x2 f1 f2 ml;go_wp2_with fail;obtain⟨w5,hw5⟩:=eY (w4.setCell ⟨w.heap.size,1,none⟩ (.slice q1 F.length k1));rw[←hw5];have ks:Keep [w.heap.size] w4 w5:=by rw[hw5];exact(Keep.refl _ _).setCell (p:=⟨w.heap.size,1,none⟩) (.inl sI) _
  have z5:w5.heap.size=w4.heap.size:=by rw[hw5];simp[World.setCell]
  rw[←hw5] at HM4;have N5:=HM4.out;have x0:=N5.gC 0;have x1:=N5.gC 1;have x2:=N5.gC 2;have xl:=N5.lt;have g2:=N5.f 2 sI;have d2:=(ks.cell (b:=pm) (o:=2) om (by simp;omega)).trans D2;have K5:Below w.heap.size w w5:=K4.trans (ks.below om (fun s hs=>by simp at hs;omega));have HR5:=ah (HR4.out.keep ks (fun s hs=>.inl (by simp at hs;simp[hs])));have HK5:=ah K5;have SK:Hid (∀W,Keep [] w5 W→Src W pT T):=fun W k=>ST5.out W (HK5.out.trans (k.rA.mono K5.size))
  have lp5:pm<w5.heap.size:=om;clear hw5 ks D2 HR4 K4 B4 N5;go_region_law (refine Qo (base:=w5.heap.size) (v:=.slice none 0 0) (l:=[]) (m:=T) rfl (.tmp 26) (.tmp 30) rf rf T.length rf rfl (aT _ _ _ _) (SK.out _ (kep (Keep.refl _ _))) (by simp;omega) sI ?_;intro q2 k2 w6 hown6 hg6;have B6:Below w5.heap.size _ w6:=(aL _ _).grown hg6 sI (fun r hr=>by simp[Value.ownBlock] at hr);have M6:=(HM4.out.mP).below B6 om;have y1:=M6.gC 1;have y2:=M6.gC 2;have h1:=M6.f 1 sI;have h2:=M6.f 2 sI;have yl:=M6.lt)
  all_goals
   have HM6:=ah (M6.store 2 (.slice q2 T.length k2) sI);have z6:=B6.size;simp at z6;have K6:Below w.heap.size w w6:=HK5.out.trans ((fG (aL _ _).drew B6).mono K5.size);have HR6:=ah (HR5.out.keep (Keep.of (fG (aL _ _).drew B6):Keep [] w5 w6) (fun s hs=>by cases hs));have HT6:=ah (show zK (w.heap.size::X) w6 (.slice q2 T.length k2) T from zK.of (w:=w5.drew) ⟨by simpa using hown6,by simpa using B6⟩ (fun x hx=>by simp at hx;rcases hx with rfl|hx;(·simpa using xl);(·have:=hX x hx;simp;omega)));clear M6 hown6 hg6;go_wp2;go_ret;have ks:Keep [w.heap.size] w6 (w6.setCell ⟨w.heap.size,2,none⟩ (.slice q2 T.length k2)):=(Keep.refl _ _).setCell (p:=⟨w.heap.size,2,none⟩) (.inl sI) _;refine⟨w.heap.size,.slice q1 F.length k1,.slice q2 T.length k2,rfl,⟨HM6.out.lt,sI,HM6.out.gC 0,HM6.out.gC 1,HM6.out.gC 2,HM6.out.f 1 sI,HM6.out.f 2 sI,HR6.out.keep ks (fun s hs=>.inl (by simp at hs;simp[hs])),HT6.out.keep ks (fun s hs=>.inl (by simp at hs;simp[hs]))⟩,aI _,K6.trans (ks.below om (fun s hs=>by simp at hs;omega))⟩
