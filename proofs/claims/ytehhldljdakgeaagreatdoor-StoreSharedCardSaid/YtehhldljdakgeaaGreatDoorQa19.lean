/- Lemmas and contracts for the claim's last text: ZMinA, EnvA, Duo, EnvP, RefU, Drp. -/
import Derived.Test.YtehhldljdakgeaaGreatDoorQa01
import Derived.Test.YtehhldljdakgeaaGreatDoorQa18
set_option linter.unusedSimpArgs false
set_option linter.unusedVariables false
set_option maxHeartbeats 16000000
set_option maxRecDepth 100000
namespace Go.Proofs.YtehhldljdakgeaaGreatDoor
open Go.RowKit Go.Maps
attribute [local go_sem ↓] aJ aK
theorem pY.up {B B':Nat} {ev:Nat→Addr} {w:World} (h:pY B ev w) (hb:B≤B') (hs:B'≤w.heap.size):pY B' ev w:=
 ⟨hs,fun i a b=>aC (h.glob i a b) hb,h.cell,h.inj,h.row,fun i a b=>aC (h.lt i a b) hb,aC h.globT hb,h.typ⟩
def EPost {σ:Type} (S:List Nat→List Nat→σ→World→Prop) (X F:List Nat) (d:σ) (w:World) (r:Value) (en:Ending) (w':World):Prop:=
 en= .returned r∧∃X',S X' F d w'∧Keep (off X F) w w'∧(∀x∈X',x∈X∨w.heap.size≤x)∧∀x∈X,x∈X'
structure FEnv (σ:Type) (w0:World) where
 S:List Nat→List Nat→σ→World→Prop
 bel: ∀{X F d w},S X F d w→Below w0.heap.size w0 w
 lim: ∀{X F d w},S X F d w→∀x∈X,w0.heap.size≤x∧x<w.heap.size
 qR: ∀{X F d w},S X F d w→∀f∈F,f∈X
 go: ∀{X F d w w'},S X F d w→Below w.heap.size w w'→S X F d w'
 other: ∀{X F G d w w'},S X F d w→Keep G w w'→(∀g∈G,g∈F)→S X F d w'
 tQ: ∀{X F G Y d w w'},S X F d w→Keep G w w'→(∀g∈G,g∈F)→(∀y∈Y,w.heap.size≤y∧y<w'.heap.size)→S (Y++X) (Y++F) d w'
 uI: ∀{X F G d w},S X F d w→(∀g∈G,g∈F)→S X G d w
structure oQ {σ:Type} {w0:World} (E:FEnv σ w0) (X0 F:List Nat) (w:World) (L X:List Nat) (d:σ) (W:World):Prop where
 t:E.S X (L++F) d W
 k:Keep (off X0 F) w W
 x1: ∀x∈X,x∈X0∨w.heap.size≤x
 x2: ∀x∈X0,x∈X
 l: ∀b∈L,w.heap.size≤b∧b<W.heap.size
section
variable {σ:Type} {w0 w W W':World} {E:FEnv σ w0} {X0 F L X:List Nat} {d d':σ} {b:Nat} {r:Value} {en:Ending}
theorem oQ.start (h:E.S X F d w):oQ E X F w [] X d w:=⟨h,Keep.refl _ _,fun _ q=>.inl q,fun _ q=>q,fun b q=>by cases q⟩
theorem oQ.go (h:oQ E X0 F w L X d W) (k:Below W.heap.size W W'):oQ E X0 F w L X d W':=⟨E.go h.t k,h.k.step k,h.x1,h.x2,fun b q=>⟨(h.l b q).1,aC (h.l b q).2 k.size⟩⟩
theorem oQ.box (h:oQ E X0 F w L X d W) (o:Obj):oQ E X0 F w (W.heap.size::L) (W.heap.size::X) d (W.alloc o):=by
 have kb:Below W.heap.size W (W.alloc o):=(aO _ _).alloc (aH _) o;have zk:=h.k.size;refine⟨E.tQ (Y:=[W.heap.size]) (G:=[]) h.t (Keep.of kb) (fun g q=>by cases q) (fun y hy=>by simp at hy;subst hy;simp),h.k.step kb,fun x q=> ?_,fun x q=>ak _ (h.x2 x q),fun b q=> ?_⟩
 ·rcases aB.1 q with r|r
  ·subst r;exact .inr zk
  ·exact h.x1 x r
 ·rcases aB.1 q with r|r
  ·subst r;exact⟨zk,sI⟩
  ·exact⟨(h.l b r).1,aC (h.l b r).2 kb.size⟩
theorem oQ.wr (h:oQ E X0 F w L X d W) (hb:b∈L) (k:Keep [b] W W'):oQ E X0 F w L X d W':=by
 refine⟨E.other h.t k fun g q=> ?_,h.k.trans k fun s q=> ?_,h.x1,h.x2,fun c q=>⟨(h.l c q).1,aC (h.l c q).2 k.size⟩⟩
 ·simp at q;subst q;exact av _ hb
 ·simp at q;subst q;exact .inr (h.l _ hb).1
theorem oQ.act (h:oQ E X0 F w L X d W) (hp:EPost E.S X (L++F) d' W r en W'):en= .returned r∧∃X',oQ E X0 F w L X' d' W'∧Keep (off X (L++F)) W W':=by
 obtain⟨h1,X',h2,h3,h4,h5⟩:=hp;have z:=h.k.size;refine⟨h1,X',⟨h2,h.k.trans h3 fun s q=> ?_,fun x q=> ?_,fun x q=>h5 x (h.x2 x q),fun b q=>⟨(h.l b q).1,aC (h.l b q).2 h3.size⟩⟩,h3⟩
 ·obtain⟨q1,q2⟩:=jJ.1 q
  exact(h.x1 s q1).imp (fun t=>jJ.2 ⟨t,fun u=>q2 (aj _ u)⟩) id
 ·rcases h4 x q with t|t
  ·exact h.x1 x t
  ·exact .inr om
theorem oQ.fin (h:oQ E X0 F w L X d W):EPost E.S X0 F d w r (.returned r) W:=
 ⟨rfl,X,E.uI h.t fun g q=>aj _ q,h.k,h.x1,h.x2⟩
theorem oQ.loc (hb:b∈L) {us:List Value} (hl:jD W b us) (k:Keep (off X (L++F)) W W'):jD W' b us:=hl.keep k fun q=>(jJ.1 q).2 (av _ hb)
end
structure tu (pd pc pz e:Nat) (mn:Int) (O:List (List Int)) (ev:Nat→Addr) (w0:World) extends FEnv De w0 where
 inv: ∀{X F d w},S X F d w→oH e d
 ord: ∀{X F d w},S X F d w→qY O d.c.L.length
 err:pY w0.heap.size ev w0
 take: ∀{X F d w} (k n:Int) (u:Bool),S X F d w→Calls Tryz.prog 23 #[.pointer (some ⟨pd,0,none⟩),.int .i64 k,.int .i64 n,.bool u] w (EPost S X F (takeD mn O e d k n u).1 w (.tuple #[obV (takeD mn O e d k n u).2.2,jW ev (takeD mn O e d k n u).2.1]))
 give: ∀{X F d w} (k:Int) (o:Ob),S X F d w→ -9223372036854775808≤o.2→o.2≤9223372036854775807→Calls Tryz.prog 50 #[.pointer (some ⟨pd,0,none⟩),.int .i64 k,.agg #[.int .i64 o.1,.int .i64 o.2]] w (EPost S X F (kK e d k o).1 w (jW ev (kK e d k o).2))
 work: ∀{X F d w},S X F d w→Calls Tryz.prog 64 #[.pointer (some ⟨pd,0,none⟩)] w fun r w'=>r= .returned (.int .i64 d.H.length)∧w'=w
 cache: ∀{X F d w},S X F d w→Calls Tryz.prog 55 #[.pointer (some ⟨pd,0,none⟩)] w fun r w'=>r= .returned (.pointer (some ⟨pc,0,none⟩))∧w'=w
 zone: ∀{X F d w},S X F d w→Calls Tryz.prog 105 #[.pointer (some ⟨pc,0,none⟩)] w fun r w'=>r= .returned (.pointer (some ⟨pz,0,none⟩))∧w'=w
 free: ∀{X F d w} (v:Int),S X F d w→Calls Tryz.prog 106 #[.pointer (some ⟨pz,0,none⟩),.int .i64 v] w fun r w'=>(∃n,r= .returned (.tuple #[.int .i64 n,jW ev (if 0≤v∧v<d.c.L.length then 0 else 2)]))∧Below w.heap.size w w'
section
variable {X F:List Nat} {B:Nat} {w w0:World} {ev:Nat→Addr} {pd pc pz gh pdm ghm pcm pm gN e:Nat} {mn lw hi:Int} {O:List (List Int)} {d m:De} {v vp:Value} {A:SA} {V:HV} {U:List Value}
theorem Am (h:CD B w X pd pc pz gh mn lw hi O e v A V vp U d):
 Calls Tryz.prog 64 #[.pointer (some ⟨pd,0,none⟩)] w fun r w'=>r= .returned (.int .i64 d.H.length)∧w'=w:=by
 have c1:=h.de.d.gC 1;have cl:=h.de.d.lt;clear h;go_enter Tryz.func64,Tryz.ntmps64;go_wp2;go_ret;exact⟨rfl,rfl⟩
theorem Om (h:CD B w X pd pc pz gh mn lw hi O e v A V vp U d):
 Calls Tryz.prog 105 #[.pointer (some ⟨pc,0,none⟩)] w fun r w'=>r= .returned (.pointer (some ⟨pz,0,none⟩))∧w'=w:=by
 have c0:=h.cs.ch.c.gC 0;have cl:=h.cs.ch.c.lt;clear h;go_enter Tryz.func105,Tryz.ntmps105;go_wp2;go_ret;exact⟨rfl,rfl⟩
theorem FQ {L:List Nd} (v:Int) (hE:yT B ev w) (h:oz B w pz mn lw hi O L) (hL:0<L.length):
 Calls Tryz.prog 106 #[.pointer (some ⟨pz,0,none⟩),.int .i64 v] w fun r w'=>(∃n,r= .returned (.tuple #[.int .i64 n,jW ev (if 0≤v∧v<L.length then 0 else 2)]))∧Below w.heap.size w w':=by
 by_cases hv:0≤v∧v<L.length
 ·rw[if_pos hv]
  obtain⟨x,hx⟩: ∃x,L[v.toNat]?=some x:=⟨L[v.toNat]' om,aA _⟩;have:=NM pz mn lw hi O L v.toNat x w h hx;rw[show((v.toNat:Nat):Int)=v from om] at this;exact this.mono fun r w' ⟨q,b⟩=>⟨⟨_,q⟩,b⟩
 ·rw[if_neg hv]
  exact(Fp pz mn lw hi O L v w hE h hL om).mono fun r w' ⟨q,b⟩=>⟨⟨_,q⟩,b⟩
theorem D5 (h:CD B w X pd pc pz gh mn lw hi O e v A V vp U d):
 Calls Tryz.prog 55 #[.pointer (some ⟨pd,0,none⟩)] w fun r w'=>r= .returned (.pointer (some ⟨pc,0,none⟩))∧w'=w:=by
 have c0:=h.de.d.gC 0;have cl:=h.de.d.lt;clear h;go_enter Tryz.func55,Tryz.ntmps55;go_wp2;go_ret;exact⟨rfl,rfl⟩
end
section
variable {σ τ:Type} {w0 w1:World}
structure Duo (E:FEnv σ w0) (D:FEnv τ w1) (w:World) (L:List Nat) (X F Y G:List Nat) (d:σ) (m:τ) (W:World):Prop where
 s:E.S X F d W
 t:D.S Y G m W
 a: ∀x∈off X F,x∈G
 b: ∀x∈off Y G,x∈F
 l1: ∀b∈L,b∈F∧b∈G
 l2: ∀b∈L,w.heap.size≤b∧b<W.heap.size
 bel:Below w.heap.size w W
 lo:w.heap.size≤w0.heap.size∧w.heap.size≤w1.heap.size
def lK (E:FEnv σ w0) (D:FEnv τ w1) (w:World) (L:List Nat) (d:σ) (m:τ) (W:World):Prop:=∃X F Y G,Duo E D w L X F Y G d m W
variable {E:FEnv σ w0} {D:FEnv τ w1} {w W W':World} {L X F Y G:List Nat} {d d':σ} {m m':τ} {b:Nat} {r:Value} {en:Ending}
end
section
variable {w0:World} {ev:Nat→Addr} {pd pc pz e:Nat} {mn:Int} {O:List (List Int)}
def envP (gh:Nat) (lw hi:Int) (hE:pY w0.heap.size ev w0):tu pd pc pz e mn O ev w0 where
 S X F d w:=DpS w0.heap.size w0 pd pc pz gh mn lw hi O e X F d w
 bel h:=h.bel
 lim h:=h.lim
 qR h:=h.qR
 inv h:=h.inv
 ord h:=h.ord
 go h k:=h.go h.bel.size k
 other h k hs:=h.other h.bel.size k hs
 tQ h k hs hy:=h.tQ h.bel.size k hs hy
 uI h hg:=h.uI hg
 err:=hE
 take k n u h:=(Ut k n u hE.s h).mono fun r w' ⟨a,b,X',c1,c2,c3⟩=>⟨a,X',c3,b,c1,c2⟩
 give k o h o1 o2:=(Uu k o hE.s h o1 o2).mono fun r w' ⟨a,b,X',c1,c2,c3⟩=>⟨a,X',c3,b,c1,c2⟩
 work h:=by
  obtain⟨v',A',V',vp',U',c,_⟩:=h.cd;exact Am c
 cache h:=by
  obtain⟨v',A',V',vp',U',c,_⟩:=h.cd;exact D5 c
 zone h:=by
  obtain⟨v',A',V',vp',U',c,_⟩:=h.cd;exact Om c
 free v h:=by
  obtain⟨v',A',V',vp',U',c,_⟩:=h.cd;exact FQ v (hE.go h.bel).c c.cs.z.toB c.cs.l0
end
theorem QM {base:Nat} (v:Value) (l:List (Int×Int)) (j:Nat) (w:World) (h:GJ base w v l) (hj:j<l.length) (hl:l.length≤256):
 Calls Tryz.prog 169 #[v,.int .i64 j] w fun e w'=>∃v',e= .returned v'∧Ns w w' v' (l.take j++l.drop (j+1)):=by
 rcases h with⟨_,rfl⟩|⟨g,cap,rfl,hcap,hmax,_,hg,hc⟩
 ·simp at hj
 unfold maxLen at hmax;have C:=ah hc;have lj:(l.take j).length=j:=by rw[bC];omega
 have ld:(l.drop (j+1)).length=l.length-(j+1):=bY;obtain⟨N,hN⟩:=eY l.length;rw[←hN] at hj hl hcap ld ⊢;have LJ:=ah lj;have LD:=ah ld;clear hc lj ld hN;have s1:Hid (Src w (some ⟨g,0,none⟩) (l.take j)):=.inr ⟨g,0,rfl,fun i a k hi=>by
  have hij:i<j:=by have:=(au.1 hi).1;rw[LJ.out] at this;exact this
  rw[dD hij] at hi;have:=C.out i a k hi;rwa [bH]⟩
 by_cases hk:cap=j+1
 ·subst hk
  have hN1:N=j+1:=om;have s2:Hid (∀w',Src w' (some ⟨g,0,none⟩) (l.drop (j+1))):=fun w'=>.inr ⟨g,0,rfl,fun i a k hi=>by
   have:=(au.1 hi).1;rw[LD.out] at this;omega⟩
  have HN1:=ah hN1;subst hN1;go_enter Tryz.func169,Tryz.ntmps169;go_wp2_with (first|(at_builtin;refine lC (base:=w.heap.size) (v:=.slice none 0 0) (l:=[]) (m:=l.take j) (p:=some ⟨g,0,none⟩) rfl (.tmp 6) (.tmp 9) rf rf j rf LJ.out (aT _ _ _ _) s1.out (by rw[LJ.out];simp;omega) (aH _) ?_;intro v1 w1 hown1 hg1;have hb1:Below w.heap.size w w1:=(aO _ _).grown hg1 (aH _) (fun r hr=>by simp[Value.ownBlock] at hr))|(at_builtin;go_loud (refine lC (base:=w.heap.size) (v:=v1) (l:=[]++l.take j) (m:=l.drop (j+1)) (p:=some ⟨g,0,none⟩) rfl (.tmp 11) (.tmp 15) rf rf (0) rf (by rw[LD.out];omega) hown1 (s2.out _) (by rw[LD.out];simp[LJ.out];omega) hb1.size ?_;intro v2 w2 hown2 hg2;have hb2:Below w.heap.size w w2:=hb1.grown hg2 hb1.size (fun r hr=>(hown1.lt r hr).1))));go_ret;exact⟨_,rfl,by simpa using hown2,hb2⟩
 ·have s2:Hid (∀w',Below w.heap.size w w'→Src w' (some ⟨g,(j+1)*2,none⟩) (l.drop (j+1))):=fun w' hb=>.inr ⟨g,(j+1)*2,rfl,fun i a k hi=>by
   rw[cK] at hi;obtain⟨h1,h2⟩:=C.out _ a k hi;have e1:(j+1)*2+i*2=(j+1+i)*2:=om;rw[e1,hb.cell (p:=⟨g,(j+1+i)*2,none⟩) hg,hb.cell (p:=⟨g,(j+1+i)*2+1,none⟩) hg];exact⟨h1,h2⟩⟩
  go_enter Tryz.func169,Tryz.ntmps169;go_wp2_with (first|(at_builtin;refine lC (base:=w.heap.size) (v:=.slice none 0 0) (l:=[]) (m:=l.take j) (p:=some ⟨g,0,none⟩) rfl (.tmp 6) (.tmp 9) rf rf j rf LJ.out (aT _ _ _ _) s1.out (by rw[LJ.out];simp;omega) (aH _) ?_;intro v1 w1 hown1 hg1;have hb1:Below w.heap.size w w1:=(aO _ _).grown hg1 (aH _) (fun r hr=>by simp[Value.ownBlock] at hr))|(at_builtin;go_loud (refine lC (base:=w.heap.size) (v:=v1) (l:=[]++l.take j) (m:=l.drop (j+1)) (p:=some ⟨g,(j+1)*2,none⟩) rfl (.tmp 11) (.tmp 15) rf rf (N-(j+1)) rf (LD.out) hown1 (s2.out _ hb1) (by rw[LD.out];simp[LJ.out];omega) hb1.size ?_;intro v2 w2 hown2 hg2;have hb2:Below w.heap.size w w2:=hb1.grown hg2 hb1.size (fun r hr=>(hown1.lt r hr).1))));go_ret;exact⟨_,rfl,by simpa using hown2,hb2⟩
theorem Ea (w:World) (a k:Int) (t:TypeId):Src (w.alloc (.cells #[.int .i64 a,.int .i64 k] t)) (some ⟨w.heap.size,0,none⟩) [(a,k)]:=
 .inr ⟨w.heap.size,0,rfl,fun i x y hi=>by
  have h0:i=0:=by have:=(au.1 hi).1;simp at this;exact this
  subst h0;simp at hi;obtain⟨rfl,rfl⟩:=hi;exact⟨by rw[aZ _ _ _ _ sI];rfl,by rw[aZ _ _ _ _ sI];rfl⟩⟩
theorem Uv {base:Nat} (v:Value) (l:List (Int×Int)) (a k:Int) (w:World) (h:GJ base w v l) (hA:Asc l) (hne: ∀x∈l,x.1≠a) (hl:l.length≤256):
 Calls Tryz.prog 170 #[v,.agg #[.int .i64 a,.int .i64 k]] w fun e w'=>∃v',e= .returned v'∧Ns w w' v' (qh a k l):=by
 have HA:=ah hA;have HNE:=ah hne;clear hA hne;have h': ∃p cap,v= .slice p l.length cap∧l.length≤cap∧cap≤maxLen∧Hid ((p=none∧cap=0)∨∃g,p=some ⟨g,0,none⟩∧g<w.heap.size∧RowC w g l):=by
  rcases h with⟨rfl,rfl⟩|⟨g,cap,rfl,hcap,hmax,_,hg,hc⟩
  ·exact⟨none,0,rfl,aH _,bq _,.inl ⟨rfl,rfl⟩⟩
  ·exact⟨_,cap,rfl,hcap,hmax,.inr ⟨g,rfl,hg,hc⟩⟩
 obtain⟨p,cap,rfl,hcap,hmax,HP0⟩:=h';clear h;unfold maxLen at hmax;obtain⟨N,hN⟩:=eY l.length;have HN:=ah hN;rw[←hN] at hl hcap ⊢;clear hN;go_enter Tryz.func170,Tryz.ntmps170;go_wp2_with fail;go_loopw [5] (fun jv wr=>∃j:Nat,j≤N∧jv= .int .i64 j∧Hid (∀x∈l.take j,x.1<a)∧Below w.heap.size w wr∧Hid (vV wr w.heap.size a k)) (fun jv _=>N-(intOf jv).toNat);case atStart=>exact⟨0,bq _,by go_num,(fun x hx=>by simp at hx),jK,vV.new w a k _⟩
 case round=>
  obtain⟨j,hj,rfl,HLO,hbel,HX⟩:=hrel;have X:=HX.out;have zr:w.heap.size<wr.heap.size:=X.lt;have x0:=X.c0;have x1:=X.c1;have LJ:Hid ((l.take j).length=j):=(show _=_ by rw[bC,←HN.out];omega);have LD:Hid ((l.drop j).length=N-j):=(show _=_ by rw[bY,←HN.out]);by_cases hlt:j<N
  ·rcases HP0.out with⟨_,e0⟩|⟨g,rfl,hg,hc⟩
   ·omega
   have C:=ah hc;obtain⟨y,hy⟩: ∃y,l[j]?=some y:=⟨l[j]'(by rw[←HN.out];exact hlt),aA _⟩;obtain⟨y0,y1⟩:=y;obtain⟨p1,p2⟩:=C.out j y0 y1 hy;have r1:=(hbel.cell (p:=⟨g,j*2,none⟩) hg).trans p1;have gr:g<wr.heap.size:=om;have HY:=ah hy;clear hc p1 p2 hy;by_cases hya:y0<a
   ·have HLO2:Hid (∀x∈l.take (j+1),x.1<a):=take_lt HLO.out HY.out hya
    go_wp2;go_quiet (fail);go_wp2;go_roundw;case rel=>exact⟨j+1,om,by go_num,HLO2,below_drewN hbel _,(show vV _ _ _ _ from X.keep ((Keep.refl [] _).drewN _) sI)⟩
    case measure=>simp[intOf];omega
   ·have HP:Hid (qh a k l=l.take j++(a,k)::l.drop j):=Dw HLO.out (cut_at HA.out HNE.out HLO.out (fun x hx=>by
     have e:=aI (HY.out.symm.trans hx);rw[←e];show a≤y0;omega))
    have s1:Hid (∀w',Below w.heap.size w w'→Src w' (some ⟨g,0,none⟩) (l.take j)):=fun w' hb=>.inr ⟨g,0,rfl,fun i x y hi=>by
     have hij:i<j:=by have:=(au.1 hi).1;rw[LJ.out] at this;exact this
     rw[dD hij] at hi;rw[bH,hb.cell (p:=⟨g,i*2,none⟩) hg,hb.cell (p:=⟨g,i*2+1,none⟩) hg];exact C.out i x y hi⟩
    have s2:Hid (∀w',Below w.heap.size w w'→Src w' (some ⟨g,j*2,none⟩) (l.drop j)):=fun w' hb=>.inr ⟨g,j*2,rfl,fun i x y hi=>by
     rw[cK] at hi;have e1:j*2+i*2=(j+i)*2:=om;rw[e1,hb.cell (p:=⟨g,(j+i)*2,none⟩) hg,hb.cell (p:=⟨g,(j+i)*2+1,none⟩) hg];exact C.out _ x y hi⟩
    have hcj: ¬cap=j:=om;go_wp2;go_quiet (fail);obtain⟨wz,hwz⟩:=eY (wr.drewN nq);rw[←hwz];have hbz:Below w.heap.size w wz:=by rw[hwz];exact below_drewN hbel _
    have Xz:vV wz w.heap.size a k:=by rw[hwz];exact X.keep ((Keep.refl [] _).drewN _) sI
    have zz:w.heap.size<wz.heap.size:=Xz.lt;clear hwz hbel X x0 x1;go_wp2_with (first|(at_builtin;refine lC (base:=w.heap.size) (v:=.slice none 0 0) (l:=[]) (m:=l.take j) (p:=some ⟨g,0,none⟩) rfl (.tmp 23) (.tmp 26) rf rf j rf LJ.out (aT _ _ _ _) (s1.out _ hbz) (by rw[LJ.out];simp;try omega) om ?_;intro v1 w1 hown1 hg1;have hb1:Below w.heap.size w w1:=hbz.grown hg1 om (fun r hr=>by simp[Value.ownBlock] at hr);have hz1:w.heap.size<w1.heap.size:=(by have:=hg1.size;omega);have x0:=(hg1.block w.heap.size om (by simp[Value.ownBlock]));have cx0:w1.cell? ⟨w.heap.size,0,none⟩=some (.int .i64 a):=(dL x0).trans Xz.c0;have cx1:w1.cell? ⟨w.heap.size,1,none⟩=some (.int .i64 k):=(dL x0).trans Xz.c1)|(at_builtin;refine lC (base:=w.heap.size) (v:=v1) (l:=[]++l.take j) (m:=[(a,k)]) (p:=some ⟨w1.heap.size,0,none⟩) rfl (.tmp 28) (.tmp 30) rf rf 1 rf rf (hown1.alloc _) (Ea _ _ _ _) (by simp[LJ.out];try omega) (by simp;try omega) ?_;intro v2 w2 hown2 hg2;have hb2:Below w.heap.size w w2:=(hb1.alloc hb1.size _).grown hg2 (by simp;omega) (fun r hr=>(hown1.lt r hr).1);have hz2:w1.heap.size<w2.heap.size:=(by have:=hg2.size;simp at this;omega))|(at_builtin;refine lC (base:=w.heap.size) (v:=v2) (l:=([]++l.take j)++[(a,k)]) (m:=l.drop j) (p:=some ⟨g,j*2,none⟩) rfl (.tmp 32) (.tmp 35) rf rf (N-j) rf (LD.out) hown2 (s2.out _ hb2) (by rw[LD.out];simp[LJ.out];try omega) om ?_;intro v3 w3 hown3 hg3;have hb3:Below w.heap.size w w3:=hb2.grown hg3 om (fun r hr=>(hown2.lt r hr).1)));go_ret;exact⟨_,rfl,by rw[HP.out];exact⟨(show World.ownsRow _ _ _ _ _ _ _ by simpa using hown3),hb3⟩⟩
  ·have ej:j=N:=by omega
   have HP:Hid (qh a k l=l.take j++(a,k)::l.drop j):=Dw HLO.out (fun x hx=>by
    have:l.drop j=[]:=fQ (by rw[←HN.out];omega);rw[this] at hx;cases hx)
   have hd:Hid (l.drop j=[]):=fQ (by rw[←HN.out];omega);have LD0:Hid ((l.drop j).length=0):=(show _=_ by rw[hd.out];rfl);rcases HP0.out with⟨rfl,e0⟩|⟨g,rfl,hg,hc⟩
   ·have ej0:j=0:=by omega
    subst e0;subst ej;have s1:Hid (∀w',Below w.heap.size w w'→Src w' none (l.take j)):=fun w' _=>.inl ⟨rfl,by rw[ej0];rfl⟩
    have s2:Hid (∀w',Src w' none (l.drop j)):=fun w'=>.inl ⟨rfl,hd.out⟩
    clear HP0;subst ej0;go_wp2;go_quiet (fail);obtain⟨wz,hwz⟩:=eY (wr.drewN nq);rw[←hwz];have hbz:Below w.heap.size w wz:=by rw[hwz];exact below_drewN hbel _
    have Xz:vV wz w.heap.size a k:=by rw[hwz];exact X.keep ((Keep.refl [] _).drewN _) sI
    have zz:w.heap.size<wz.heap.size:=Xz.lt;clear hwz hbel X x0 x1;go_wp2_with (first|(at_builtin;refine lC (base:=w.heap.size) (v:=.slice none 0 0) (l:=[]) (m:=l.take 0) (p:=none) rfl (.tmp 23) (.tmp 26) rf rf 0 rf LJ.out (aT _ _ _ _) (s1.out _ hbz) (by rw[LJ.out];simp;try omega) om ?_;intro v1 w1 hown1 hg1;have hb1:Below w.heap.size w w1:=hbz.grown hg1 om (fun r hr=>by simp[Value.ownBlock] at hr);have hz1:w.heap.size<w1.heap.size:=(by have:=hg1.size;omega);have x0:=(hg1.block w.heap.size om (by simp[Value.ownBlock]));have cx0:w1.cell? ⟨w.heap.size,0,none⟩=some (.int .i64 a):=(dL x0).trans Xz.c0;have cx1:w1.cell? ⟨w.heap.size,1,none⟩=some (.int .i64 k):=(dL x0).trans Xz.c1)|(at_builtin;refine lC (base:=w.heap.size) (v:=v1) (l:=[]++l.take 0) (m:=[(a,k)]) (p:=some ⟨w1.heap.size,0,none⟩) rfl (.tmp 28) (.tmp 30) rf rf 1 rf rf (hown1.alloc _) (Ea _ _ _ _) (by simp[LJ.out];try omega) (by simp;try omega) ?_;intro v2 w2 hown2 hg2;have hb2:Below w.heap.size w w2:=(hb1.alloc hb1.size _).grown hg2 (by simp;omega) (fun r hr=>(hown1.lt r hr).1);have hz2:w1.heap.size<w2.heap.size:=(by have:=hg2.size;simp at this;omega))|(at_builtin;refine lC (base:=w.heap.size) (v:=v2) (l:=([]++l.take 0)++[(a,k)]) (m:=l.drop 0) (p:=none) rfl (.tmp 32) (.tmp 35) rf rf (0) rf (LD0.out) hown2 (s2.out _) (by rw[LD.out];simp[LJ.out];try omega) om ?_;intro v3 w3 hown3 hg3;have hb3:Below w.heap.size w w3:=hb2.grown hg3 om (fun r hr=>(hown2.lt r hr).1)));go_ret;exact⟨_,rfl,by rw[HP.out];exact⟨(show World.ownsRow _ _ _ _ _ _ _ by simpa using hown3),hb3⟩⟩
   ·have C:=ah hc
    have s1:Hid (∀w',Below w.heap.size w w'→Src w' (some ⟨g,0,none⟩) (l.take j)):=fun w' hb=>.inr ⟨g,0,rfl,fun i x y hi=>by
     have hij:i<j:=by have:=(au.1 hi).1;rw[LJ.out] at this;exact this
     rw[dD hij] at hi;rw[bH,hb.cell (p:=⟨g,i*2,none⟩) hg,hb.cell (p:=⟨g,i*2+1,none⟩) hg];exact C.out i x y hi⟩
    have s2:Hid (∀w' o,Src w' (some ⟨g,o,none⟩) (l.drop j)):=fun w' o=>.inr ⟨g,o,rfl,fun i x y hi=>by rw[hd.out] at hi;simp at hi⟩
    clear hc;subst ej;by_cases hcj:cap=j
    ·have hcj2:=hcj.symm
     subst hcj2;go_wp2;go_quiet (fail);obtain⟨wz,hwz⟩:=eY (wr.drewN nq);rw[←hwz];have hbz:Below w.heap.size w wz:=by rw[hwz];exact below_drewN hbel _
     have Xz:vV wz w.heap.size a k:=by rw[hwz];exact X.keep ((Keep.refl [] _).drewN _) sI
     have zz:w.heap.size<wz.heap.size:=Xz.lt;clear hwz hbel X x0 x1;go_wp2_with (first|(at_builtin;refine lC (base:=w.heap.size) (v:=.slice none 0 0) (l:=[]) (m:=l.take j) (p:=some ⟨g,0,none⟩) rfl (.tmp 23) (.tmp 26) rf rf j rf LJ.out (aT _ _ _ _) (s1.out _ hbz) (by rw[LJ.out];simp;try omega) om ?_;intro v1 w1 hown1 hg1;have hb1:Below w.heap.size w w1:=hbz.grown hg1 om (fun r hr=>by simp[Value.ownBlock] at hr);have hz1:w.heap.size<w1.heap.size:=(by have:=hg1.size;omega);have x0:=(hg1.block w.heap.size om (by simp[Value.ownBlock]));have cx0:w1.cell? ⟨w.heap.size,0,none⟩=some (.int .i64 a):=(dL x0).trans Xz.c0;have cx1:w1.cell? ⟨w.heap.size,1,none⟩=some (.int .i64 k):=(dL x0).trans Xz.c1)|(at_builtin;refine lC (base:=w.heap.size) (v:=v1) (l:=[]++l.take j) (m:=[(a,k)]) (p:=some ⟨w1.heap.size,0,none⟩) rfl (.tmp 28) (.tmp 30) rf rf 1 rf rf (hown1.alloc _) (Ea _ _ _ _) (by simp[LJ.out];try omega) (by simp;try omega) ?_;intro v2 w2 hown2 hg2;have hb2:Below w.heap.size w w2:=(hb1.alloc hb1.size _).grown hg2 (by simp;omega) (fun r hr=>(hown1.lt r hr).1);have hz2:w1.heap.size<w2.heap.size:=(by have:=hg2.size;simp at this;omega))|(at_builtin;refine lC (base:=w.heap.size) (v:=v2) (l:=([]++l.take j)++[(a,k)]) (m:=l.drop j) (p:=some ⟨g,0,none⟩) rfl (.tmp 32) (.tmp 35) rf rf (0) rf (LD0.out) hown2 (s2.out _ _) (by rw[LD.out];simp[LJ.out];try omega) om ?_;intro v3 w3 hown3 hg3;have hb3:Below w.heap.size w w3:=hb2.grown hg3 om (fun r hr=>(hown2.lt r hr).1)));go_ret;exact⟨_,rfl,by rw[HP.out];exact⟨(show World.ownsRow _ _ _ _ _ _ _ by simpa using hown3),hb3⟩⟩
    ·have e00:j-j=0:=iV _
     go_wp2;go_quiet (fail);obtain⟨wz,hwz⟩:=eY (wr.drewN nq);rw[←hwz];have hbz:Below w.heap.size w wz:=by rw[hwz];exact below_drewN hbel _
     have Xz:vV wz w.heap.size a k:=by rw[hwz];exact X.keep ((Keep.refl [] _).drewN _) sI
     have zz:w.heap.size<wz.heap.size:=Xz.lt;clear hwz hbel X x0 x1;go_wp2_with (first|(at_builtin;refine lC (base:=w.heap.size) (v:=.slice none 0 0) (l:=[]) (m:=l.take j) (p:=some ⟨g,0,none⟩) rfl (.tmp 23) (.tmp 26) rf rf j rf LJ.out (aT _ _ _ _) (s1.out _ hbz) (by rw[LJ.out];simp;try omega) om ?_;intro v1 w1 hown1 hg1;have hb1:Below w.heap.size w w1:=hbz.grown hg1 om (fun r hr=>by simp[Value.ownBlock] at hr);have hz1:w.heap.size<w1.heap.size:=(by have:=hg1.size;omega);have x0:=(hg1.block w.heap.size om (by simp[Value.ownBlock]));have cx0:w1.cell? ⟨w.heap.size,0,none⟩=some (.int .i64 a):=(dL x0).trans Xz.c0;have cx1:w1.cell? ⟨w.heap.size,1,none⟩=some (.int .i64 k):=(dL x0).trans Xz.c1)|(at_builtin;refine lC (base:=w.heap.size) (v:=v1) (l:=[]++l.take j) (m:=[(a,k)]) (p:=some ⟨w1.heap.size,0,none⟩) rfl (.tmp 28) (.tmp 30) rf rf 1 rf rf (hown1.alloc _) (Ea _ _ _ _) (by simp[LJ.out];try omega) (by simp;try omega) ?_;intro v2 w2 hown2 hg2;have hb2:Below w.heap.size w w2:=(hb1.alloc hb1.size _).grown hg2 (by simp;omega) (fun r hr=>(hown1.lt r hr).1);have hz2:w1.heap.size<w2.heap.size:=(by have:=hg2.size;simp at this;omega))|(at_builtin;refine lC (base:=w.heap.size) (v:=v2) (l:=([]++l.take j)++[(a,k)]) (m:=l.drop j) (p:=some ⟨g,j*2,none⟩) rfl (.tmp 32) (.tmp 35) rf rf (0) rf (LD0.out) hown2 (s2.out _ _) (by rw[LD.out];simp[LJ.out];try omega) om ?_;intro v3 w3 hown3 hg3;have hb3:Below w.heap.size w w3:=hb2.grown hg3 om (fun r hr=>(hown2.lt r hr).1)));go_ret;exact⟨_,rfl,by rw[HP.out];exact⟨(show World.ownsRow _ _ _ _ _ _ _ by simpa using hown3),hb3⟩⟩
section
variable {σ:Type} {w0:World}
def drS (E:FEnv σ w0) (X F:List Nat) (d:σ) (w:World):Prop:=∃Z H,E.S Z (H++F) d w∧(∀x∈X,x∈Z)∧(∀z∈Z,z∈X∨z∈H)∧(∀h∈H,h∉X)∧∀f∈F,f∈X
variable {E:FEnv σ w0} {X Y F G:List Nat} {d d':σ} {w w':World} {r:Value} {en:Ending}
theorem drS.of (h:E.S X F d w):drS E X F d w:=⟨X,[],h,fun _ q=>q,fun _ q=>.inl q,fun _ q=>(by cases q),fun f q=>E.qR h f q⟩
theorem drS.post {Z H:List Nat} (h1: ∀x∈X,x∈Z) (h2: ∀z∈Z,z∈X∨z∈H) (h3: ∀h∈H,h∉X) (h4: ∀f∈F,f∈X) (hl: ∀z∈Z,z<w.heap.size) (hp:EPost E.S Z (H++F) d' w r en w'):EPost (drS E) X F d' w r en w':=by
 obtain⟨he,Z',k1,k2,k3,k4⟩:=hp;refine⟨he,Z'.filter (fun z=>decide (z∉H)),⟨Z',H,k1,fun x q=>(bF.1 q).1,fun z q=> ?_,fun z q t=>by have:=(bF.1 t).2;simp at this;exact this q,fun f q=> ?_⟩,k2.mono fun s q=> ?_,fun x q=> ?_,fun x q=> ?_⟩
 ·by_cases t:z∈H
  ·exact .inr t
  ·exact .inl (bF.2 ⟨q,by simpa using t⟩)
 ·exact bF.2 ⟨k4 f (h1 f (h4 f q)),by simpa using fun t=>h3 f t (h4 f q)⟩
 ·obtain⟨q1,q2⟩:=jJ.1 q
  exact jJ.2 ⟨(h2 s q1).resolve_right fun t=>q2 (av _ t),fun t=>q2 (aj _ t)⟩
 ·obtain⟨q1,q2⟩:=bF.1 q
  simp at q2;rcases k3 x q1 with t|t
  ·exact .inl ((h2 x t).resolve_right q2)
  ·exact .inr t
 ·exact bF.2 ⟨k4 x (h1 x q),by simpa using fun t=>h3 x t q⟩
def FEnv.dr (E:FEnv σ w0):FEnv σ w0 where
 S:=drS E
 bel:=fun⟨Z,H,h,_⟩=>E.bel h
 lim:=fun⟨Z,H,h,h1,_⟩ x hx=>E.lim h x (h1 x hx)
 qR:=fun⟨Z,H,h,h1,h2,h3,h4⟩=>h4
 go:=fun⟨Z,H,h,hr⟩ k=>⟨Z,H,E.go h k,hr⟩
 other:=fun⟨Z,H,h,hr⟩ k hs=>⟨Z,H,E.other h k (fun g q=>aj _ (hs g q)),hr⟩
 tQ:=fun {X F G Y d w w'} ⟨Z,H,h,h1,h2,h3,h4⟩ k hs hy=>by
  refine⟨Y++Z,H,E.uI (E.tQ h k (fun g q=>aj _ (hs g q)) hy) (fun g q=> ?_),fun x q=> ?_,fun z q=> ?_,fun z q t=> ?_,fun f q=> ?_⟩
  ·rcases aD.1 q with t|t
   ·exact aj _ (av _ t)
   ·rcases aD.1 t with u|u
    ·exact av _ u
    ·exact aj _ (aj _ u)
  ·rcases aD.1 q with t|t
   ·exact av _ t
   ·exact aj _ (h1 x t)
  ·rcases aD.1 q with t|t
   ·exact .inl (av _ t)
   ·exact(h2 z t).imp (fun u=>aj _ u) id
  ·rcases aD.1 t with u|u
   ·have:=(hy z u).1
    have:=(E.lim h z (E.qR h z (av _ q))).2;omega
   ·exact h3 z q u
  ·rcases aD.1 q with t|t
   ·exact av _ t
   ·exact aj _ (h4 f t)
 uI:=fun {X F G d w} ⟨Z,H,h,h1,h2,h3,h4⟩ hs=>⟨Z,H,E.uI h (fun g q=>by
  rcases aD.1 q with t|t
  ·exact av _ t
  ·exact aj _ (hs g t)),h1,h2,h3,fun f q=>h4 f (hs f q)⟩
theorem FEnv.drop (h:E.dr.S X F d w) (hY: ∀y∈Y,y∈X) (hX: ∀x∈X,x∈Y∨x∈F) (hG: ∀g∈G,g∈F∧g∈Y):E.dr.S Y G d w:=by
 obtain⟨Z,H,h,h1,h2,h3,h4⟩:=h;refine⟨Z,H++F.filter (fun f=>decide (f∉Y)),E.uI h fun g q=> ?_,fun x q=>h1 x (hY x q),fun z q=> ?_,fun z q t=> ?_,fun f q=>(hG f q).2⟩
 ·rcases aD.1 q with t|t
  ·rcases aD.1 t with u|u
   ·exact av _ u
   ·exact aj _ (bF.1 u).1
  ·exact aj _ (hG g t).1
 ·rcases h2 z q with t|t
  ·by_cases u:z∈Y
   ·exact .inl u
   ·exact .inr (aj _ (bF.2 ⟨(hX z t).resolve_left u,by simpa using u⟩))
  ·exact .inr (av _ t)
 ·rcases aD.1 q with u|u
  ·exact h3 z u (hY z t)
  ·have:=(bF.1 u).2;simp at this;exact this t
end
section
variable {pd pc pz e:Nat} {mn:Int} {O:List (List Int)} {ev:Nat→Addr} {w0:World}
def tu.dr (E:tu pd pc pz e mn O ev w0):tu pd pc pz e mn O ev w0 where
 toFEnv:=E.toFEnv.dr
 inv:=fun⟨Z,H,h,_⟩=>E.inv h
 ord:=fun⟨Z,H,h,_⟩=>E.ord h
 err:=E.err
 take:=fun k n u ⟨Z,H,h,h1,h2,h3,h4⟩=>(E.take k n u h).mono fun r w' hp=>drS.post h1 h2 h3 h4 (fun z q=>(E.lim h z q).2) hp
 give:=fun k o ⟨Z,H,h,h1,h2,h3,h4⟩ o1 o2=>(E.give k o h o1 o2).mono fun r w' hp=>drS.post h1 h2 h3 h4 (fun z q=>(E.lim h z q).2) hp
 work:=fun⟨Z,H,h,_⟩=>E.work h
 cache:=fun⟨Z,H,h,_⟩=>E.cache h
 zone:=fun⟨Z,H,h,_⟩=>E.zone h
 free:=fun v ⟨Z,H,h,_⟩=>E.free v h
end
end Go.Proofs.YtehhldljdakgeaaGreatDoor
