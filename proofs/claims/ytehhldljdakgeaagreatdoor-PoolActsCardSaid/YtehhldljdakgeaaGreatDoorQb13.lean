/- Lemmas. -/
import Derived.Test.YtehhldljdakgeaaGreatDoorQb01
import Derived.Test.YtehhldljdakgeaaGreatDoorQb12
set_option linter.unusedSimpArgs false
set_option linter.unusedVariables false
set_option maxHeartbeats 16000000
set_option maxRecDepth 100000
namespace Go.Proofs.YtehhldljdakgeaaGreatDoor
open Go.RowKit Go.Maps Go.Proofs.Tryz
attribute [local go_sem ↓] aJ aK
section
variable {X Y S F:List Nat} {B:Nat} {ev:Nat→Addr} {w w':World} {pd pc pz gh e:Nat} {mn lw hi:Int} {O:List (List Int)} {v vp vp':Value} {A:SA} {V:HV} {U U':List Value} {d:De} {c:Ca} {P':List (List Ob)}
theorem CD.push (h:CD B w X pd pc pz gh mn lw hi O e v A V vp U d) (k:Nat) {p':Value×Value} {h':Hd} (hk:k<d.H.length) (kk:Keep (gh::pd::jS vp) w w')
 (hd:jR w' pd [.pointer (some ⟨pc,0,none⟩),.slice (some ⟨gh,0,none⟩) d.H.length d.H.length,vp']) (row:w'.ownsRow B 38 1 vp' P'.length U') (ul:U'.length=P'.length)
 (hv: ∀y∈jS vp',y∈jS vp∨w.heap.size≤y) (hg:jR w' gh (lX (V.set k p')))
 (r1:mD (X++xd pc v A d.c.L pd gh vp') w' p'.1 h'.1) (r2:mD (X++xd pc v A d.c.L pd gh vp') w' p'.2 h'.2)
 (po: ∀(i:Nat) (u:Value) (m:List Ob),U'[i]?=some u→P'[i]?=some m→mD (X++xd pc v A d.c.L pd gh vp') w' u m):
 CD B w' (X++xd pc v A d.c.L pd gh vp') pd pc pz gh mn lw hi O e v A (V.set k p') vp' U' ⟨d.c,d.H.set k h',P'⟩∧∀x∈X++xd pc v A d.c.L pd gh vp',x∈X∨w.heap.size≤x:=by
 obtain⟨n0,nn⟩:=aS.1 h.de.nd;obtain⟨n1,n2⟩:=aS.1 nn;have fg:=h.far gh h.nQ;have fp:=h.far pd h.wR;have fo: ∀y∈jS vp,y∈X∧y∉cay pc v A∧y∉ys d.c.L:=fun y hy=>h.far y (ak _ (ak _ hy))
 have hS: ∀s∈gh::pd::jS vp,s∈X∧s∉cay pc v A∧s∉ys d.c.L:=fun s q=>by
  rcases aB.1 q with rfl|q
  ·exact fg
  ·rcases aB.1 q with rfl|q
   ·exact fp
   ·exact fo s q
 have new: ∀x∈X++xd pc v A d.c.L pd gh vp',x∈X∨w.heap.size≤x:=fun x hx=>by
  rcases aD.1 hx with q|q
  ·exact .inl q
  ·rcases aD.1 q with q|q
   ·rcases aB.1 q with rfl|q
    ·exact .inl fp.1
    ·rcases aB.1 q with rfl|q
     ·exact .inl fg.1
     ·exact(hv x q).imp (fun r=>(fo x r).1) id
   ·exact .inl (h.x x (aj _ q))
 have hlp:=h.de.lim pd h.wR;have hlg:=h.de.lim gh h.nQ;have hz:=kk.size;have cs1:CS B w' pc pz mn lw hi O e (X++xd pc v A d.c.L pd gh vp') v A d.c:=by
  have m1:=h.cs.more (Y:=X++xd pc v A d.c.L pd gh vp') (fun x hx=>av _ hx) new;exact m1.keep kk (fun s q=>⟨(hS s q).2.1,.inl ⟨av _ (hS s q).1,(hS s q).2.2⟩⟩)
 refine⟨⟨fun y hy=>aj _ hy,fun y hy=> ?_,cs1,?_,fun y hy=> ?_⟩,new⟩
 ·rcases aD.1 hy with q|q
  ·exact h.limK kk y q
  ·rcases aD.1 q with q|q
   ·rcases aB.1 q with rfl|q
    ·exact⟨hlp.1,om⟩
    ·rcases aB.1 q with rfl|q
     ·exact⟨hlg.1,om⟩
     ·exact jZ row q
   ·rcases aD.1 q with q|q
    ·exact⟨(h.cs.ch.lim y q).1,by have:=(h.cs.ch.lim y q).2;omega⟩
    ·exact⟨(h.cs.z.b.lim y q).1,by have:=(h.cs.z.b.lim y q).2;omega⟩
 ·have m1:=h.de.more (Y:=X++xd pc v A d.c.L pd gh vp') new (fun y q=>av _ (h.de.mem y q))
  refine⟨by rw[cu];exact hd,hg,by simp[h.de.hl],fun i p g hp hg'=> ?_,row,ul,po,fun y hy=>aj _ (av _ hy),?_,fun y hy=> ?_⟩
  ·by_cases q:k=i
   ·subst q
    rw[aZ (by rw[h.de.hl];exact hk)] at hp;rw[aZ hk] at hg';obtain rfl:=aO hp;obtain rfl:=aO hg';exact⟨r1,r2⟩
   ·rw[bQ q] at hp hg'
    have hs: ∀s∈gh::pd::jS vp,s∈X++xd pc v A d.c.L pd gh vp'∨w.heap.size≤s:=fun s q=>.inl (av _ (hS s q).1)
    exact⟨(m1.ho i p g hp hg').1.keep kk hs,(m1.ho i p g hp hg').2.keep kk hs⟩
  ·refine aS.2 ⟨fun q=> ?_,aS.2 ⟨fun q=> ?_,by unfold jS;cases vp'.ownBlock<;>simp⟩⟩
   ·rcases aB.1 q with r|r
    ·exact n0 (r▸aG ..)
    ·rcases hv pd r with t|t
     ·exact n0 (ak _ t)
     ·omega
   ·rcases hv gh q with t|t
    ·exact n1 t
    ·omega
  ·rcases aB.1 hy with rfl|q
   ·exact⟨hlp.1,om⟩
   ·rcases aB.1 q with rfl|q
    ·exact⟨hlg.1,om⟩
    ·have:=jZ row q;exact this
 ·rcases aB.1 hy with rfl|q
  ·exact fp.2
  ·rcases aB.1 q with rfl|q
   ·exact fg.2
   ·rcases hv y q with r|r
    ·exact(fo y r).2
    ·exact⟨fun t=>by have:=(h.cs.ch.lim y t).2;omega,fun t=>by have:=(h.cs.z.b.lim y t).2;omega⟩
theorem dgive_3 (k:Nat) (o:Ob) (hE0:B≤w.heap.size) (h:CD B w X pd pc pz gh mn lw hi O e v A V vp U d) (hF:Hid (∀f∈F,f∈X∧f∉xd pc v A d.c.L pd gh vp)) (hI:pU e d) (o1: -9223372036854775808≤o.2) (o2:o.2≤9223372036854775807) {t r:List Ob} (hk:d.H[k]?=some (t,r)) (hl4:t.length=4) (hr:r≠[]) (ho:Ay e d o=true):
 Calls prog 50 #[.pointer (some ⟨pd,0,none⟩),.int .i64 k,.agg #[.int .i64 o.1,.int .i64 o.2]] w (um B ev pd pc pz gh mn lw hi O e X F w (lI e d k o)):=by
 have hkl:=(au.1 hk).1;have fd:qE (t,r) d.P=(([],r),d.P++[t]):=by unfold qE;rw[if_pos hl4,if_neg hr]
 rw[BQ hk ho,fd];have b1:Below w.heap.size w (w.alloc (.cells #[.int .i64 o.1,.int .i64 o.2] 40)):=jY;have HL:=ah (show jR (w.alloc (.cells #[.int .i64 o.1,.int .i64 o.2] 40)) w.heap.size [.int .i64 o.1,.int .i64 o.2] from jR.mk_ w [.int .i64 o.1,.int .i64 o.2] 40 rfl);obtain⟨W1,hW1⟩:=eY (w.alloc (.cells #[.int .i64 o.1,.int .i64 o.2] 40));rw[←hW1] at b1 HL;have h1:=h.below b1;have HD:=ah (uK h1 k hkl);have pl:d.P.length≤65535:=by
  have hh:=(o9 hI).1;have h2:=oU hI.c;omega
 have OU:=FV o h1 hI o1 o2;rw[ho] at OU;have HOU:=ah OU;have m0:=HL.out.gC 0;have m1:=HL.out.gC 1;have ml:=HL.out.lt;have HB1:=ah b1;have HH:=ah h;have HE0:=ah hE0;have rg: ¬(w.heap.size=gh):=fun q=>by have:=(h.de.lim gh h.nQ).2;omega
 have VL:Hid (k<V.length):=by show k<V.length;rw[h.de.hl];exact hkl
 clear h b1 h1 OU hI ho;go_in
 go_wp2_with fail;rw[←hW1];clear hW1;refine HD.out.mono ?_;rintro r' w1 ⟨rfl,rfl⟩;go_wp2_with fail;refine HOU.out.mono ?_;rintro r' w2 ⟨rfl,hb2⟩;have B2:=HB1.out.trans (hb2.mono HB1.out.size);obtain⟨p,hp,r1,r2,g0,g1,f0,f1,gl⟩:=(HH.out.below B2).hand hk;obtain⟨p',hp',rt,rr,_⟩:=HH.out.hand hk;rw[hp] at hp';obtain rfl:=aO hp';obtain⟨⟨pa,pb⟩,rfl⟩: ∃q,q=p:=⟨_,rfl⟩;obtain⟨qt,ct,e1,_,_⟩:=r1.isSlice;obtain⟨qr,cr,e2,_,_⟩:=r2.isSlice;simp only at e1 e2 g0 g1 hp rt rr;rw[hl4] at e1;subst e1 e2;have hrl:r.length≠0:=fun q=>hr (bM.1 q)
 obtain⟨nr,hnr⟩:=eY r.length;rw[←hnr] at g1 hrl;have d5:decide (nr=0)=false:=dQf hrl;have d5':((nr:Int)==0)=false:=by simp;omega
 have HDE:=ah (HH.out.below B2).de;obtain⟨qp,kp,rfl⟩: ∃qp kp,vp= .slice qp d.P.length kp:=by
  rcases HDE.out.row.2 with⟨a1,a2⟩|⟨_,cap',_,a1,_⟩
  ·exact⟨none,0,by rw[a1,a2]⟩
  ·exact⟨_,cap',a1⟩
 have c2:=HDE.out.d.gC 2;have cl:=HDE.out.d.lt;have cf:=HDE.out.d.f 2 sI;have HLB2:=ah (HL.out.go hb2);have x0:=HLB2.out.gC 0;have x1:=HLB2.out.gC 1;have xl:=HLB2.out.lt;have HB2:=ah B2;have HP:=ah hp;have RT:=ah rt;have RR:=ah rr;have HNR:=ah hnr;obtain⟨N,hN⟩:=eY d.P.length;have EN:=ah hN;have HUL:=ah (show U.length=N by rw[hN];exact HDE.out.ul);rw[←hN] at c2 pl;have OW:Hid (((w2.alloc (.cells #[.slice qt 4 ct] 38)).drew).ownsRow B 38 1 (.slice qp N kp) U.length U):=by
  have ho:=HDE.out.row;rw[←hN] at ho;show World.ownsRow _ _ _ _ _ _ _;rw[HUL.out];exact(ho.alloc _).drew
 have SRC:Hid (uP ((w2.alloc (.cells #[.slice qt 4 ct] 38)).drew) (some ⟨w2.heap.size,0,none⟩) [.slice qt 4 ct]):=JI ((jR.mk_ w2 [.slice qt 4 ct] 38 rfl).mP);have PGN:Hid (¬(pd=gh)):=fun q=>(aS.1 HDE.out.nd).1 (q▸aG ..)
 have NPO:Hid (pd∉jS (.slice qp d.P.length kp)∧gh∉jS (.slice qp d.P.length kp)):=⟨fun q=>(aS.1 HDE.out.nd).1 (ak _ q),(aS.1 (aS.1 HDE.out.nd).2).1⟩;have eo:jS (.slice qp N kp)=jS (.slice qp d.P.length kp):=by rw[hN]
 have EO:=ah eo;have bxn:w.heap.size∉jS (.slice qp d.P.length kp):=fun q=>by
  have:=(HH.out.de.lim w.heap.size (ak _ (ak _ q))).2;omega
 have BXN:=ah bxn;clear r1 r2 rt rr hp hp' hnr hN hr fd hl4 bxn eo B2 HD HOU m0 m1 ml;go_wp2_with fail;refine kE (S:=(fun w'=>w'.cell? ⟨pd,2,none⟩=some (.slice qp N kp)∧w'.cell? ⟨gh,k*2,none⟩=some (.slice qt 4 ct))) 11 #[false,false,false,false,false,false,false,false,false,false,false] rfl kR kR (by(try dsimp only);go_keep) (fun hHeld=> ?_);simp only[aQ,aV];refine tk 0 ?_;refine tk 1 ?_;refine tk 2 ?_;refine tk 3 ?_;refine tk 4 ?_;refine tk 5 ?_;refine tk 6 ?_;refine tk 7 ?_;refine tk 8 ?_;refine wpAnyH_ready (rs:=[9]) kR sI ?_;refine aR (jT rfl) (fun K hK=> ?_) aX;go_simp
 refine hkO hK fun hHeld=> ?_
 clear hK K;refine wpAnyH_ready (rs:=[10]) kR sI ?_;refine aR (jT rfl) (fun K hK=> ?_) aX;refine rU VI (base:=B) (v:=.slice qp N kp) (us:=U) (ms:=[.slice qt 4 ct]) (p:=some ⟨w2.heap.size,0,none⟩) rf (.tmp 49) (.tmp 54) rf rf 1 rf rfl OW.out SRC.out (by intro x hx;simp at hx;subst hx;rfl) (by rw[HUL.out];simp;omega) (by have:=HE0.out;have:=HB2.out.size;simp;omega) ?_;intro q4 k4 w4 kV hg4 ho4;have e5:(U++[Value.slice qt 4 ct]).length=N+1:=by simp[HUL.out]
 rw[e5] at kV ho4 ⊢;have K24:Keep (jS (.slice qp d.P.length kp)) w2 w4:=by
  have k1:Keep (jS (.slice qp d.P.length kp)) w2 ((w2.alloc (.cells #[.slice qt 4 ct] 38)).drew):=Keep.of jY;have k2:=kJ hg4;rw[EO.out] at k2;exact k1.then k2
 have y0:=(K24.cell (o:=2) cl NPO.out.1).trans c2;have y1:=(K24.cell (o:=k*2) gl NPO.out.2).trans g0;have y2:=(K24.frozen (o:=2) cl NPO.out.1).trans cf;have y3:=(K24.frozen (o:=k*2) gl NPO.out.2).trans f0;have yl:=aC gl K24.size;have ycl:=aC cl K24.size;refine hkO hK fun hHeld=> ?_
 clear hK K;refine wpAnyH_done kR ?_ _;simp only[oz,aP,aU];have HOWN:=ah kV;have HVN:Hid (∀y∈jS (.slice q4 (N+1) k4),y∈jS (.slice qp d.P.length kp)∨w2.heap.size≤y):=fun y hy=>by
  rcases oM ho4 y hy with r|r
  ·rw[EO.out] at r;exact .inl r
  ·exact .inr (by simp at r;omega)
 have HK24:=ah K24;have PG:=PGN.out;have GP: ¬(gh=pd):=fun q=>PG q.symm
 have rp: ¬(w.heap.size=pd):=fun q=>by have:=(HH.out.de.lim pd HH.out.wR).2;omega
 clear kV ho4 hg4 e5 K24 hHeld;go_wp2_with fail;obtain⟨w5,hw5⟩:=eY ((w4.setCell ⟨pd,2,none⟩ (.slice q4 (N+1) k4)).setCell ⟨gh,k*2,none⟩ (.slice none 0 0));rw[←hw5];have K5:Keep [gh,pd] w4 w5:=by rw[hw5];exact((Keep.refl _ _).setCell (p:=⟨pd,2,none⟩) (.inl sI) _).setCell (p:=⟨gh,k*2,none⟩) (.inl sI) _
 have L5d:jR w5 pd [.pointer (some ⟨pc,0,none⟩),.slice (some ⟨gh,0,none⟩) d.H.length d.H.length,.slice q4 (N+1) k4]:=by
  rw[hw5];exact((HDE.out.d.keep HK24.out NPO.out.1).store 2 (.slice q4 (N+1) k4) sI).far GP _ _
 have L5h:jR w5 gh (lX (V.set k (.slice none 0 0,.slice qr r.length cr))):=by
  rw[hw5];exact Dk ((HDE.out.hs.keep HK24.out NPO.out.2).far PG 2 (.slice q4 (N+1) k4)) HP.out (.slice none 0 0)
 have hk5: ∀s∈jS (.slice qp d.P.length kp),s∈gh::pd::jS (.slice qp d.P.length kp):=fun s q=>ak _ (ak _ q)
 have KW5:=ah (((Keep.of (S:=gh::pd::jS (.slice qp d.P.length kp)) HB2.out).then (HK24.out.mono hk5)).then (K5.mono (fun s q=>by simp at q;rcases q with rfl|rfl<;>simp)));have g0':=L5h.c (k*2) _ (pE (Ai VL.out _)).1;have f0':=L5h.f (k*2) (by rw[lK,cu];have:=VL.out;omega);have gl':=L5h.lt;have HLB:=ah ((HLB2.out.keep HK24.out BXN.out).keep K5 (by simpa using⟨rg,rp⟩));have HO5:Hid (w5.ownsRow B 38 1 (.slice q4 (N+1) k4) (N+1) (U++[.slice qt 4 ct])):=jQ HOWN.out K5 (fun s hs q=>by
  have hsl:s=gh∨s=pd:=by simpa using hs
  have hlp:=(HDE.out.lim pd (aG ..)).2;have hlg:=(HDE.out.lim gh (ak _ (aG ..))).2;rcases HVN.out s q with t1|t1
  ·rcases hsl with rfl|rfl
   ·exact NPO.out.2 t1
   ·exact NPO.out.1 t1
  ·rcases hsl with rfl|rfl<;>omega)
 have HL5d:=ah L5d;have HL5h:=ah L5h;clear x0 x1 xl y0 y1 y2 y3 yl ycl c2 cl cf g0 g1 f0 f1 gl hw5 K5 L5d L5h hk5;have x0:=HLB.out.gC 0;have x1:=HLB.out.gC 1;have xl:=HLB.out.lt;simp only at g0';have HRC:Hid (mD X w5 (.slice none 0 0) []):=mD.nil X w5;have CL:Hid (∀W,Calls prog 67 #[.slice none 0 0] W fun e w'=>e= .returned (.slice none 0 0)∧w'=W):=fun W=>AA none 0 0 W (fun _=>rfl) (aI _)
 have VL3:Hid ((V.set k (.slice none 0 0,.slice qr r.length cr))[k]?=some (.slice none 0 0,.slice qr r.length cr)):=Ai VL.out _;have NB0:Hid ((w5.alloc (.cells #[.int .i64 o.1,.int .i64 o.2] 40)).drew.cell? ⟨w5.heap.size,0+0,none⟩=some (.int .i64 o.1)):=(jR.mk_ w5 [.int .i64 o.1,.int .i64 o.2] 40 rfl).mP.gC 0;have NB1:Hid ((w5.alloc (.cells #[.int .i64 o.1,.int .i64 o.2] 40)).drew.cell? ⟨w5.heap.size,0+1,none⟩=some (.int .i64 o.2)):=(jR.mk_ w5 [.int .i64 o.1,.int .i64 o.2] 40 rfl).mP.gC 1;have FIN:Hid (∀w4 g' k',Below w5.heap.size w5 w4→w4.ownsRow ((w5.alloc (.cells #[.int .i64 o.1,.int .i64 o.2] 40)).drew).heap.size 40 2 (.slice (some ⟨g',0,none⟩) (0+1) k') (0+1) (l8 ([]++[o]))→
  um B ev pd pc pz gh mn lw hi O e X F w (⟨d.c,d.H.set k ([]++[o],r),d.P++[t]⟩,0) (.returned .nilIface) (w4.setCell ⟨gh,k*2,none⟩ (.slice (some ⟨g',0,none⟩) (0+1) k'))):=fun w4 g' k' hb hown=>by
  have hz:=KW5.out.size;have hz2:=HB2.out.size;have kk:Keep (gh::pd::jS (.slice qp d.P.length kp)) w (w4.setCell ⟨gh,k*2,none⟩ (.slice (some ⟨g',0,none⟩) (0+1) k')):=(KW5.out.step hb).setCell (p:=⟨gh,k*2,none⟩) (.inl sI) _;have k4':Keep [gh] w4 (w4.setCell ⟨gh,k*2,none⟩ (.slice (some ⟨g',0,none⟩) (0+1) k')):=(Keep.refl _ _).setCell (p:=⟨gh,k*2,none⟩) (.inl sI) _;have hg4:=hown.lt g' rfl;have hs:((w5.alloc (.cells #[.int .i64 o.1,.int .i64 o.2] 40)).drew).heap.size=w5.heap.size+1:=sI;rw[hs] at hg4;obtain⟨Z,hZ⟩:=eY (X++xd pc v A d.c.L pd gh (.slice q4 (N+1) k4));have zlt: ∀x∈Z,x<w5.heap.size:=fun x hx=>by
   rw[hZ] at hx;have old: ∀y∈X,y<w5.heap.size:=fun y hy=>by have:=(HH.out.lim y hy).2;omega
   rcases aD.1 hx with q|q
   ·exact old x q
   ·rcases aD.1 q with q|q
    ·rcases aB.1 q with rfl|q
     ·exact old _ (HH.out.de.mem _ HH.out.wR)
     ·rcases aB.1 q with rfl|q
      ·exact old _ (HH.out.de.mem _ HH.out.nQ)
      ·exact(jZ HO5.out q).2
    ·exact old x (HH.out.x x (aj _ q))
  have hgZ:g'∉Z:=fun q=>by have:=zlt g' q;omega
  have ro:mD Z w4 (.slice (some ⟨g',0,none⟩) (0+1) k') ([]++[o]):=qX (l:=[]++[o]) hown (fun g q=>by
   have:g=g':=by simpa[Value.ownBlock,eq_comm] using q
   subst this;exact hgZ)
  have new: ∀x∈Z,x∈X∨w.heap.size≤x:=fun x hx=>by
   rw[hZ] at hx;rcases aD.1 hx with q|q
   ·exact .inl q
   ·rcases aD.1 q with q|q
    ·rcases aB.1 q with rfl|q
     ·exact .inl (HH.out.de.mem _ HH.out.wR)
     ·rcases aB.1 q with rfl|q
      ·exact .inl (HH.out.de.mem _ HH.out.nQ)
      ·rcases HVN.out x q with t1|t1
       ·exact .inl (HH.out.de.mem x (ak _ (ak _ t1)))
       ·exact .inr om
    ·exact .inl (HH.out.x x (aj _ q))
  have carry: ∀(u:Value) (m:List Ob),mD X w u m→mD Z (w4.setCell ⟨gh,k*2,none⟩ (.slice (some ⟨g',0,none⟩) (0+1) k')) u m:=fun u m h0=>by
   have h1:=h0.more (Y:=Z) new;exact h1.keep kk (fun s q=>.inl (by
    rw[hZ];refine av _ ?_;rcases aB.1 q with rfl|q
    ·exact HH.out.de.mem _ HH.out.nQ
    ·rcases aB.1 q with rfl|q
     ·exact HH.out.de.mem _ HH.out.wR
     ·exact HH.out.de.mem s (ak _ (ak _ q))))
  have hgm:gh∈Z:=by rw[hZ];exact av _ (HH.out.de.mem _ HH.out.nQ)
  have ro':=ro.keep k4' (fun s q=>by simp at q;subst q;exact .inl hgm);have hl:=Dk (HL5h.out.keep (Keep.of (S:=[]) hb) sI) VL3.out (.slice (some ⟨g',0,none⟩) (0+1) k');rw[JL] at hl;have hdW:=(HL5d.out.keep (Keep.of (S:=[]) hb) sI).far GP (k*2) (.slice (some ⟨g',0,none⟩) (0+1) k');have e6:N+1=(d.P++[t]).length:=by rw[EN.out];simp
  have hrow:(w4.setCell ⟨gh,k*2,none⟩ (.slice (some ⟨g',0,none⟩) (0+1) k')).ownsRow B 38 1 (.slice q4 (N+1) k4) (N+1) (U++[.slice qt 4 ct]):=jQ (jQ HO5.out (Keep.of (S:=[]) hb) (fun s q=>by cases q)) k4' (fun s q r1=>by
   simp at q;subst q;rcases HVN.out _ r1 with t1|t1
   ·exact NPO.out.2 t1
   ·have:=(HDE.out.lim _ (ak _ (aG ..))).2;omega)
  rw[hZ] at carry ro';obtain⟨c1,c2⟩:=HH.out.push k (p':=(.slice (some ⟨g',0,none⟩) (0+1) k',.slice qr r.length cr)) (h':=([]++[o],r)) (vp':=.slice q4 (N+1) k4) (U':=U++[.slice qt 4 ct]) (P':=d.P++[t]) hkl kk hdW (by rw[←e6];exact hrow) (by simp[HUL.out,←e6]) (fun y hy=>(HVN.out y hy).imp id (fun q=>om)) hl ro' (carry _ _ RR.out) (fun i u m hu hm=>by
   by_cases hi:i<d.P.length
   ·rw[bJ hi] at hm
    rw[bJ (by rw[HUL.out,EN.out];exact hi)] at hu;exact carry u m (HH.out.de.po i u m hu hm)
   ·have hi2:=(au.1 hm).1
    have hi3:i=d.P.length:=by simp at hi2;omega
    subst hi3;rw[bP (aI _)] at hm;rw[bP (by rw[HUL.out,EN.out];exact aI _)] at hu;have e7:d.P.length-U.length=0:=by rw[HUL.out,EN.out];omega
    rw[e7] at hu;simp at hu hm;subst hu hm;exact carry _ _ RT.out)
  exact⟨rfl,_,⟨_,_,_,_,_,c1,HH.out.pushF (fun y hy=>(HVN.out y hy).imp id (fun q=>om)) hF.out (fun x hx=>av _ hx)⟩,kk.mono (fun s q=>by
   rcases aB.1 q with rfl|q
   ·exact HH.out.offy hF.out HH.out.nQ
   ·rcases aB.1 q with rfl|q
    ·exact HH.out.offy hF.out HH.out.wR
    ·exact HH.out.offy hF.out (ak _ (ak _ q))),c2,fun x hx=>av _ hx⟩
 have EN0:Hid (0=([]:List Ob).length):=rfl;refine kE (S:=(fun w'=>w'.cell? ⟨gh,k*2,none⟩=some (.slice none 0 0)∧w'.cell? ⟨w.heap.size,0,none⟩=some (.int .i64 o.1)∧w'.cell? ⟨w.heap.size,1,none⟩=some (.int .i64 o.2))) 9 #[false,false,false,false,false,false,false,false,false] rfl kR kR (by(try dsimp only);go_keep) (fun hHeld=> ?_);simp only[aQ,aV];refine tk 0 ?_;refine tk 1 ?_;refine tk 2 ?_;refine tk 3 ?_;refine tk 4 ?_;refine tk 6 ?_;refine wpAnyH_ready (rs:=[5,7]) kR sI ?_;refine aR (jT rfl) (fun K hK=> ?_) (aR (jT rfl) (fun K hK=> ?_) aX)
 ·refine qY rf 67 #[.slice none 0 0] kR (.slice none 0 0) _ (CL.out _) ?_
  refine hkO hK fun hHeld=> ?_
  clear hK K;refine wpAnyH_ready (rs:=[7]) kR sI ?_;refine aR (jT rfl) (fun K hK=> ?_) aX;go_simp
  refine hkO hK fun hHeld=> ?_
  clear hK K;refine wpAnyH_ready (rs:=[8]) kR sI ?_;refine aR (jT rfl) (fun K hK=> ?_) aX;refine sD (X:=X) (w:=(w5.alloc (.cells #[.int .i64 o.1,.int .i64 o.2] 40)).drew) EN0.out rf (.tmp 66) (.tmp 68) rf rf rf ((HRC.out.below jY)) om (ob:=o) (ad:=⟨w5.heap.size,0,none⟩) (by rw[addr_add];exact NB0.out) (by rw[addr_add];exact NB1.out) ?_;intro g' k' w4 kV hb4;have B4:Below w5.heap.size w5 w4:=(show Below w5.heap.size w5 ((w5.alloc (.cells #[.int .i64 o.1,.int .i64 o.2] 40)).drew) from jY).trans (hb4.mono sI);have y0:=(B4.cell (p:=⟨gh,k*2,none⟩) gl').trans g0';have y1:=(B4.cell (p:=⟨w.heap.size,0,none⟩) xl).trans x0;have y2:=(B4.cell (p:=⟨w.heap.size,1,none⟩) xl).trans x1;have yf:=(B4.frozen (p:=⟨gh,k*2,none⟩) gl').trans f0';have yl:gh<w4.heap.size:=aC gl' B4.size;refine hkO hK fun hHeld=> ?_
  clear hK K;refine wpAnyH_done kR ?_ _;simp only[oz,aP,aU];have HO4:=ah kV;have HB4:=ah B4;clear kV hb4 B4 hHeld;go_wp2;go_ret;exact FIN.out w4 g' k' HB4.out HO4.out
 ·go_simp
  refine hkO hK fun hHeld=> ?_
  clear hK K;refine wpAnyH_ready (rs:=[5]) kR sI ?_;refine aR (jT rfl) (fun K hK=> ?_) aX;refine qY rf 67 #[.slice none 0 0] kR (.slice none 0 0) _ (CL.out _) ?_;refine hkO hK fun hHeld=> ?_
  clear hK K;refine wpAnyH_ready (rs:=[8]) kR sI ?_;refine aR (jT rfl) (fun K hK=> ?_) aX;refine sD (X:=X) (w:=(w5.alloc (.cells #[.int .i64 o.1,.int .i64 o.2] 40)).drew) EN0.out rf (.tmp 66) (.tmp 68) rf rf rf ((HRC.out.below jY)) om (ob:=o) (ad:=⟨w5.heap.size,0,none⟩) (by rw[addr_add];exact NB0.out) (by rw[addr_add];exact NB1.out) ?_;intro g' k' w4 kV hb4;have B4:Below w5.heap.size w5 w4:=(show Below w5.heap.size w5 ((w5.alloc (.cells #[.int .i64 o.1,.int .i64 o.2] 40)).drew) from jY).trans (hb4.mono sI);have y0:=(B4.cell (p:=⟨gh,k*2,none⟩) gl').trans g0';have y1:=(B4.cell (p:=⟨w.heap.size,0,none⟩) xl).trans x0;have y2:=(B4.cell (p:=⟨w.heap.size,1,none⟩) xl).trans x1;have yf:=(B4.frozen (p:=⟨gh,k*2,none⟩) gl').trans f0';have yl:gh<w4.heap.size:=aC gl' B4.size;refine hkO hK fun hHeld=> ?_
  clear hK K;refine wpAnyH_done kR ?_ _;simp only[oz,aP,aU];have HO4:=ah kV;have HB4:=ah B4;clear kV hb4 B4 hHeld;go_wp2;go_ret;exact FIN.out w4 g' k' HB4.out HO4.out
end
section
variable {X Y S F:List Nat} {B:Nat} {ev:Nat→Addr} {w w':World} {pd pc pz gh e:Nat} {mn lw hi:Int} {O:List (List Int)} {v vp vp':Value} {A:SA} {V:HV} {U U':List Value} {d:De} {c:Ca} {P':List (List Ob)}
theorem VW (k:Int) (o:Ob) (hE:Je B ev w) (h:CD B w X pd pc pz gh mn lw hi O e v A V vp U d) (hF:Hid (∀f∈F,f∈X∧f∉xd pc v A d.c.L pd gh vp)) (hI:pU e d) (o1: -9223372036854775808≤o.2) (o2:o.2≤9223372036854775807):
 Calls prog 50 #[.pointer (some ⟨pd,0,none⟩),.int .i64 k,.agg #[.int .i64 o.1,.int .i64 o.2]] w (um B ev pd pc pz gh mn lw hi O e X F w (lI e d k o)):=by
 cases hh:p8 d k with
 |none=>exact VU k o hE h hF hh
 |some g=>
  obtain⟨k0,h1,h2,h3⟩:=qH hh;obtain⟨kn,hkn⟩:=eY k.toNat;rw[←hkn] at h1 h3;subst h3;have h4:=(hI.h4 g (aF h1));obtain⟨g1,g2⟩:=g;simp only at h4;cases ho:Ay e d o with
  |false=>exact JN kn o hE h hF hI o1 o2 h1 ho
  |true=>
   by_cases q:g1.length=4
   ·cases g2 with
    |nil=>exact dgive_2 kn o h hF hI o1 o2 h1 q ho
    |cons a r=>exact dgive_3 kn o hE.size h hF hI o1 o2 h1 q sI ho
   ·exact dgive_1 kn o h hF hI o1 o2 h1 om ho
def tJ (H:List Hd):Nat:=(H.map fun h=>h.1.length+h.2.length).sum
end
section
variable {X Y S F:List Nat} {B:Nat} {ev:Nat→Addr} {w w' w0:World} {pd pc pz gh e:Nat} {mn lw hi:Int} {O:List (List Int)} {v vp:Value} {A:SA} {d d':De} {c:Ca}
theorem CD.start (h:CS B w pc pz mn lw hi O e X v A c) (hB:B≤w.heap.size) (n:Nat)
 (hw':w'=(w.alloc (.cells (lX (List.replicate n D7)).toArray 147)).alloc (.cells #[.pointer (some ⟨pc,0,none⟩),.slice (some ⟨w.heap.size,0,none⟩) n n,.slice none 0 0] 150)):
 CDx B w' (xd pc v A c.L (w.heap.size+1) w.heap.size (.slice none 0 0)) [] (w.heap.size+1) pc pz w.heap.size mn lw hi O e ⟨c,List.replicate n ([],[]),[]⟩:=by
 have b:Below w.heap.size w w':=by rw[hw'];exact jY
 have ed:day (w.heap.size+1) w.heap.size (.slice none 0 0)=[w.heap.size+1,w.heap.size]:=rfl;have sz:w'.heap.size=w.heap.size+2:=by rw[hw'];simp
 have m1:CS B w pc pz mn lw hi O e (day (w.heap.size+1) w.heap.size (.slice none 0 0)++X) v A c:=h.more (fun x hx=>aj _ hx) (fun y hy=>by
  rcases aD.1 hy with q|q
  ·rw[ed] at q
   simp at q;exact .inr om
  ·exact .inl q)
 suffices h0:CD B w' (xd pc v A c.L (w.heap.size+1) w.heap.size (.slice none 0 0)) (w.heap.size+1) pc pz w.heap.size mn lw hi O e v A (List.replicate n D7) (.slice none 0 0) [] ⟨c,List.replicate n ([],[]),[]⟩ from⟨_,_,_,_,_,h0,fun f hf=>(by cases hf)⟩;refine⟨fun y hy=>hy,fun y hy=> ?_,(m1.below b).sub (fun y hy=> ?_) (fun y hy=>aj _ (av _ hy)) (fun y hy=>aj _ (aj _ hy)),⟨?_,?_,sI,fun i p g hp hg=> ?_,⟨rfl,.inl ⟨rfl,rfl⟩⟩,rfl,fun i u m hu=>by simp at hu,fun y hy=>av _ hy,?_,fun y hy=> ?_⟩,fun y hy=> ?_⟩
 ·rcases aD.1 hy with q|q
  ·rw[ed] at q;simp at q;omega
  ·rcases aD.1 q with q|q
   ·exact⟨(h.ch.lim y q).1,by have:=(h.ch.lim y q).2;omega⟩
   ·exact⟨(h.z.b.lim y q).1,by have:=(h.z.b.lim y q).2;omega⟩
 ·rcases aD.1 hy with q|q
  ·exact av _ q
  ·rcases aD.1 q with q|q
   ·exact aj _ (h.ch.mem y q)
   ·exact aj _ (h.z.mem y q)
 ·rw[hw']
  simp only[jE];exact jR.mk_ _ [.pointer (some ⟨pc,0,none⟩),.slice (some ⟨w.heap.size,0,none⟩) n n,.slice none 0 0] 150 sI
 ·rw[hw']
  exact(jR.mk_ w (lX (List.replicate n D7)) 147 rfl).past _
 ·rw[fF] at hp hg
  split at hp
  ·rw[if_pos aM] at hg
   obtain rfl:=aO hp;obtain rfl:=aO hg;exact⟨mD.nil _ _,mD.nil _ _⟩
  ·cases hp
 ·rw[ed];simp
 ·rw[ed] at hy;simp at hy;omega
 ·rw[ed] at hy
  simp at hy;refine⟨fun q=> ?_,fun q=> ?_⟩
  ·have:=(h.ch.lim y q).2;omega
  ·have:=(h.z.b.lim y q).2;omega
theorem pU.start (h:uR e c) (n:Nat) (n1:1≤n) (n4:n≤4):pU e ⟨c,List.replicate n ([],[]),[]⟩:=by
 have hh: ∀n,held ⟨c,List.replicate n ([],[]),[]⟩=[]:=fun n=>by
  unfold held mQ;simp
 refine⟨h,(by simp;omega),fun o ho=>(by rw[hh n] at ho;cases ho),(by rw[hh n];exact dR),fun g hg=> ?_,fun m hm=>(by cases hm)⟩;rw[List.mem_replicate] at hg;rw[hg.2];simp
structure DpS (B:Nat) (w0:World) (pd pc pz gh:Nat) (mn lw hi:Int) (O:List (List Int)) (e:Nat) (X F:List Nat) (d:De) (w:World):Prop where
 cd:CDx B w X F pd pc pz gh mn lw hi O e d
 inv:pU e d
 bel:Below B w0 w
theorem DpS.go (h:DpS B w0 pd pc pz gh mn lw hi O e X F d w) (hB:B≤w.heap.size) (k:Below w.heap.size w w'):DpS B w0 pd pc pz gh mn lw hi O e X F d w':=⟨h.cd.below k,h.inv,h.bel.trans (k.mono hB)⟩
theorem DpS.ord (h:DpS B w0 pd pc pz gh mn lw hi O e X F d w):rM O d.c.L.length:=by
 obtain⟨v,A,V,vp,U,q,hf⟩:=h.cd;exact q.cs.z.ord
theorem VX (k n:Int) (u:Bool) (hE:Je B ev w0) (h:DpS B w0 pd pc pz gh mn lw hi O e X F d w):
 Calls prog 23 #[.pointer (some ⟨pd,0,none⟩),.int .i64 k,.int .i64 n,.bool u] w fun r w'=>r= .returned (.tuple #[obV (takeD mn O e d k n u).2.2,kM ev (takeD mn O e d k n u).2.1])∧Keep (off X F) w w'∧∃X',(∀x∈X',x∈X∨w.heap.size≤x)∧(∀x∈X,x∈X')∧DpS B w0 pd pc pz gh mn lw hi O e X' F (takeD mn O e d k n u).1 w':=by
 have hB:=bW hE.size h.bel.size;obtain⟨v,A,V,vp,U,q,hf⟩:=h.cd;refine(VK k n u ((hE.below h.bel).z) q hf h.inv).mono fun r w' ⟨hr,X',h1,h2,h3,h4⟩=>⟨hr,h2,X',h3,h4,h1,sw q.cs.z.ord h.inv,h.bel.trans (h2.below hB fun s hs=>(q.lim s (jW.1 hs).1).1)⟩
theorem VY (k:Int) (o:Ob) (hE:Je B ev w0) (h:DpS B w0 pd pc pz gh mn lw hi O e X F d w) (o1: -9223372036854775808≤o.2) (o2:o.2≤9223372036854775807):
 Calls prog 50 #[.pointer (some ⟨pd,0,none⟩),.int .i64 k,.agg #[.int .i64 o.1,.int .i64 o.2]] w fun r w'=>r= .returned (kM ev (lI e d k o).2)∧Keep (off X F) w w'∧∃X',(∀x∈X',x∈X∨w.heap.size≤x)∧(∀x∈X,x∈X')∧DpS B w0 pd pc pz gh mn lw hi O e X' F (lI e d k o).1 w':=by
 have hB:=bW hE.size h.bel.size;obtain⟨v,A,V,vp,U,q,hf⟩:=h.cd;refine(VW k o (hE.below h.bel) q hf h.inv o1 o2).mono fun r w' ⟨hr,X',h1,h2,h3,h4⟩=>⟨hr,h2,X',h3,h4,h1,yO h.inv,h.bel.trans (h2.below hB fun s hs=>(q.lim s (jW.1 hs).1).1)⟩
theorem DpS.other (h:DpS B w0 pd pc pz gh mn lw hi O e X F d w) (hB:B≤w.heap.size) (k:Keep S w w') (hs: ∀s∈S,s∈F):DpS B w0 pd pc pz gh mn lw hi O e X F d w':=by
 obtain⟨v,A,V,vp,U,q,hf⟩:=h.cd;exact⟨⟨v,A,V,vp,U,q.other k (fun s hs'=>⟨.inl (hf s (hs s hs')).1,(hf s (hs s hs')).2⟩),hf⟩,h.inv,h.bel.trans (k.below hB fun s hs'=>(q.lim s (hf s (hs s hs')).1).1)⟩
end
section
variable {X Y S F G:List Nat} {B:Nat} {ev:Nat→Addr} {w w' w0 w1:World} {pd pc pz gh e:Nat} {mn lw hi:Int} {O:List (List Int)} {v vp:Value} {A:SA} {V:HV} {U:List Value} {d d':De} {c:Ca}
theorem Ia {T E:TypeId} {z:Value} {s b:Nat} (hE:ElS T E z s b) {w:World} (ty:TypeId) {base:Nat} {v:Value} {n:Nat} {xs ms:List Value} (hown:w.ownsRow base E s v n xs) {a:Addr} {c:Nat} (hm:ms.length=s) (hc: ∀(j:Nat) (u:Value),ms[j]?=some u→w.cell? (a.add j)=some u) (h1: ∀u∈ms,u.oneCell'=true)
 (hl:n≤70000) (hb:base≤w.heap.size):
 ∃q k w',(Builtin.append_ #[T,T] ty #[v,.slice (some a) 1 c]).run prog w= .ok (.slice q (n+1) k) w'∧w'.ownsRow base E s (.slice q (n+1) k) (n+1) (xs++ms)∧w.grownBy w' v.ownBlock∧((Value.slice q (n+1) k).ownBlock=v.ownBlock∨(Value.slice q (n+1) k).ownBlock=some w.heap.size):=by
 obtain⟨i0,hi,hz0,hz1,hz2⟩:=info_parts hE.info;have zY:=hE.few;obtain⟨v',w',hrun,h2,h3,_,h5⟩:=run_append_own_at (P:=prog) w base T ty E i0 z s b hE.und hi hz0 hz1 hz2 hE.one hE.pos v n xs hown a 1 c ms
  om hc h1 (by unfold maxLen;omega) (by
   have:(n+1)*b≤70001*64:=eP om zY;omega) hb
 have hf: ∃q k,v'= .slice q (n+1) k:=by
  rcases h2.2 with⟨e,e2⟩|⟨g',cap',cur,e,_⟩
  ·exact⟨none,0,by rw[e,e2]⟩
  ·exact⟨_,_,e⟩
 obtain⟨q,k,rfl⟩:=hf;exact⟨q,k,w',hrun,h2,h3,h5⟩
theorem oI {T E:TypeId} {z:Value} {s b:Nat} (hE:ElS T E z s b) {base:Nat} {v:Value} {n:Nat} {xs ms:List Value} {w:World} {ad:Addr} {c:Nat} {ops:Array Oper} {o:Oper} {a:Act} {K:Act→World→Prop} {Q:Exit→Act→World→Prop} {F:Prop} (hgd:o.guard=none) (sl x:Operand)
 (ho:o.op= .call {callee:=.builtin .append,args:=#[sl,x],argTypes:=#[T,T]}) (hv:a.eval sl=v) (hx:a.eval x= .slice (some ad) 1 c)
 (hown:w.ownsRow base E s v n xs) (hm:ms.length=s) (hc: ∀(j:Nat) (u:Value),ms[j]?=some u→w.cell? (ad.add j)=some u) (h1: ∀u∈ms,u.oneCell'=true) (hl:n≤70000) (hb:base≤w.heap.size)
 (h: ∀q k w',w'.ownsRow base E s (.slice q (n+1) k) (n+1) (xs++ms)→w.grownBy w' v.ownBlock→((Value.slice q (n+1) k).ownBlock=v.ownBlock∨(Value.slice q (n+1) k).ownBlock=some w.heap.size)→K (a.put o.dst (.slice q (n+1) k)) w'):
 if Region.wanted o (yielded ops a.tmps)=true then Oper.wp prog o a w K Q else F:=by
 have hw:Region.wanted o (yielded ops a.tmps)=true:=by simp[Region.wanted,hgd]
 rw[if_pos hw];obtain⟨q,k,w',hrun,h2,h3,h5⟩:=Ia hE (w:=w) o.type hown hm hc h1 hl hb (c:=c);unfold Oper.wp execOp;simp only[ho,resolve,invoke,builtin,fH,fQ,dZ,eD,bH,eu,hv,hx,hrun];exact h q k w' h2 h3 h5
theorem sH {T E:TypeId} {z:Value} {s b:Nat} (hE:ElS T E z s b) {base:Nat} {v:Value} {n:Nat} {xs ms:List Value} {w:World} {ad:Addr} {c:Nat} {ops:Array Oper} {rest:List Oper} {o:Oper} {a:Act} {Q:Exit→Act→World→Prop} (hgd:o.guard=none) (sl x:Operand)
 (ho:o.op= .call {callee:=.builtin .append,args:=#[sl,x],argTypes:=#[T,T]}) (hv:a.eval sl=v) (hx:a.eval x= .slice (some ad) 1 c)
 (hown:w.ownsRow base E s v n xs) (hm:ms.length=s) (hc: ∀(j:Nat) (u:Value),ms[j]?=some u→w.cell? (ad.add j)=some u) (h1: ∀u∈ms,u.oneCell'=true) (hl:n≤70000) (hb:base≤w.heap.size)
 (h: ∀q k w',w'.ownsRow base E s (.slice q (n+1) k) (n+1) (xs++ms)→w.grownBy w' v.ownBlock→((Value.slice q (n+1) k).ownBlock=v.ownBlock∨(Value.slice q (n+1) k).ownBlock=some w.heap.size)→wpList prog ops Q rest (a.put o.dst (.slice q (n+1) k)) w'):wpList prog ops Q (o::rest) a w:=by
 refine wpList_plain hgd fun K hK=> ?_
 obtain⟨q,k,w',hrun,h2,h3,h5⟩:=Ia hE (w:=w) o.type hown hm hc h1 hl hb (c:=c);unfold Oper.wp execOp;simp only[ho,resolve,invoke,builtin,fH,fQ,dZ,eD,bH,eu,hv,hx,hrun];exact hK _ _ (h q k w' h2 h3 h5)
theorem CD.uS (h:CD B w X pd pc pz gh mn lw hi O e v A V vp U d) (k:Keep S w w1) (hs: ∀s∈S,(s∈X∨w.heap.size≤s)∧s∉xd pc v A d.c.L pd gh vp) (hY: ∀y∈Y,w.heap.size≤y∧y<w1.heap.size) (hB:B≤w.heap.size):CD B w1 (Y++X) pd pc pz gh mn lw hi O e v A V vp U d:=by
 have hm: ∀y∈Y++X,y∈X∨w.heap.size≤y:=fun y hy=>by
  rcases aD.1 hy with q|q
  ·exact .inr (hY y q).1
  ·exact .inl q
 have f1: ∀s∈S,s∉day pd gh vp:=fun s q r=>(hs s q).2 (av _ r)
 have f2: ∀s∈S,s∉cay pc v A:=fun s q r=>(hs s q).2 (aj _ (av _ r))
 have f3: ∀s∈S,s∉ys d.c.L:=fun s q r=>(hs s q).2 (aj _ (aj _ r))
 refine⟨fun y hy=>aj _ (h.x y hy),fun y hy=> ?_,(h.cs.more (fun x hx=>aj _ hx) hm).keep k (fun s q=>⟨f2 s q,(hs s q).1.imp (fun r=>⟨aj _ r,f3 s q⟩) id⟩),(h.de.more hm (fun y hy=>aj _ (h.de.mem y hy))).keep k (fun s q=>⟨f1 s q,(hs s q).1.imp (fun r=>aj _ r) id⟩),h.ne⟩;rcases aD.1 hy with q|q
 ·exact⟨bW hB (hY y q).1,(hY y q).2⟩
 ·exact⟨(h.lim y q).1,aC (h.lim y q).2 k.size⟩
theorem DpS.uS (h:DpS B w0 pd pc pz gh mn lw hi O e X F d w) (hB:B≤w.heap.size) (k:Keep S w w1) (hs: ∀s∈S,s∈F) (hG: ∀g∈G,w.heap.size≤g∧g<w1.heap.size):DpS B w0 pd pc pz gh mn lw hi O e (G++X) (G++F) d w1:=by
 obtain⟨v,A,V,vp,U,q,hf⟩:=h.cd;refine⟨⟨v,A,V,vp,U,q.uS k (fun s hs'=>⟨.inl (hf s (hs s hs')).1,(hf s (hs s hs')).2⟩) hG hB,fun f hff=> ?_⟩,h.inv,h.bel.trans (k.below hB fun s hs'=>(q.lim s (hf s (hs s hs')).1).1)⟩;rcases aD.1 hff with r|r
 ·exact⟨av _ r,fun t=>by have:=(q.lim f (q.x f t)).2;have:=(hG f r).1;omega⟩
 ·exact⟨aj _ (hf f r).1,(hf f r).2⟩
theorem DpS.wB (h:DpS B w0 pd pc pz gh mn lw hi O e X F d w) (hG: ∀g∈G,g∈F):DpS B w0 pd pc pz gh mn lw hi O e X G d w:=by
 obtain⟨v,A,V,vp,U,q,hf⟩:=h.cd;exact⟨⟨v,A,V,vp,U,q,fun f hff=>hf f (hG f hff)⟩,h.inv,h.bel⟩
theorem DpS.lim (h:DpS B w0 pd pc pz gh mn lw hi O e X F d w): ∀x∈X,B≤x∧x<w.heap.size:=h.cd.lim
theorem DpS.sU (h:DpS B w0 pd pc pz gh mn lw hi O e X F d w): ∀f∈F,f∈X:=by
 obtain⟨v,A,V,vp,U,q,hf⟩:=h.cd;exact fun f hff=>(hf f hff).1
end
