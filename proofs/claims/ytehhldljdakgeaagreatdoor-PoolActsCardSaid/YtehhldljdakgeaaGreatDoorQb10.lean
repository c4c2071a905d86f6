/- Lemmas. -/
import Derived.Test.YtehhldljdakgeaaGreatDoorQb01
import Derived.Test.YtehhldljdakgeaaGreatDoorQb09
set_option linter.unusedSimpArgs false
set_option linter.unusedVariables false
set_option maxHeartbeats 16000000
set_option maxRecDepth 100000
namespace Go.Proofs.YtehhldljdakgeaaGreatDoor
open Go.RowKit Go.Maps Go.Proofs.Tryz
attribute [local go_sem ↓] aJ aK
theorem Vv {P:List Int} {N:List (List Int)} {mn lw hi:Int} (h:uF P N mn lw hi=0):1≤P.length∧P.length≤4∧(∀p∈P,1≤p∧p≤256)∧N.length=P.length∧(∀l∈N,l.length=P.length)∧0≤mn∧mn≤lw∧lw≤hi:=by
 unfold uF at h;split at h
 ·omega
 split at h
 ·rename_i h1 h2
  have hb:Aq P N mn lw hi=true:=by cases e:Aq P N mn lw hi with|true=>rfl|false=>exact absurd e h1
  unfold Aq sZ at hb;unfold sqC at h2;simp at hb h2;obtain⟨⟨⟨⟨b1,b2⟩,b3⟩,_⟩,b5⟩:=hb;obtain⟨⟨s1,s2⟩,_⟩:=h2;refine⟨om,b2,fun p hp=> ?_,s1,fun l hl=> ?_,om,om,om⟩
  ·have:=b3 p hp
   unfold yG at this;simp at this;omega
  ·have:=s2 l hl
   unfold rE at this;simp at this;omega
 ·omega
theorem FD {w:World} {b:Nat} {u:Value} (h:w.cell? ⟨b,0,none⟩=some u):uP w (some ⟨b,0,none⟩) [u]:=
 .inr ⟨_,rfl,fun j x hj=>by
  rw[addr_add];cases j with
  |zero=>simp at hj;subst hj;exact h
  |succ j=>simp at hj⟩
theorem Keep.cell0 {S:List Nat} {w w':World} (k:Keep S w w') {b:Nat} (h1:b<w.heap.size) (h2:b∉S) {u:Value} (h:w.cell? ⟨b,0,none⟩=some u):w'.cell? ⟨b,0,none⟩=some u:=(k.cell h1 h2).trans h
structure Hw (B:Nat) (X:List Nat) (w:World) (pz:Nat) (cs:List Value) (qn:Option Addr) (kn:Nat) (qo:Option Addr) (ko:Nat) (i:Nat) (L:List Nd) (us:List Value) (O:List (List Int)):Prop where
 z:jR w pz (cs++[.slice qn i kn,.slice qo i ko])
 on:w.ownsRow (pz+1) 179 1 (.slice qn i kn) i (ptrs L)
 oo:w.ownsRow (pz+1) 59 1 (.slice qo i ko) i us
 ne: ∀g∈jS (.slice qn i kn),g∉jS (.slice qo i ko)
 b:Jd B w L
 far: ∀x∈L,∀a,a=x.pb∨a=x.bf∨a=x.bt→a≠pz∧a∉jS (.slice qn i kn)∧a∉jS (.slice qo i ko)
 rows: ∀(j:Nat) (u:Value) (D:List Int),us[j]?=some u→O[j]?=some D→nO (ys L++pz::(jS (.slice qn i kn)++jS (.slice qo i ko))) w u (ints D)
 lO:O.length=i
 lL:L.length=i
 lu:us.length=i
theorem Hw.start {B:Nat} {X:List Nat} {w:World} {pz:Nat} {cs:List Value} (h:jR w pz (cs++[.slice none 0 0,.slice none 0 0])):Hw B X w pz cs none 0 none 0 0 [] [] []:=
 ⟨h,aT _ _ _ _,aT _ _ _ _,fun g hg=>by simp[jS,Value.ownBlock] at hg,⟨(fun x hx=>by cases hx),(by simp[ys]),(fun x hx=>by cases hx),(fun y hy=>by simp[ys] at hy)⟩,(fun x hx=>by cases hx),(fun j u D hj=>by simp at hj),rfl,rfl,rfl⟩
theorem Hw.step {B:Nat} {X:List Nat} {w0 w3 W1 w4 W2 w6 w7:World} {pz:Nat} {cs:List Value} {qn qo qn' qo':Option Addr} {kn ko kn' ko' i:Nat} {L:List Nd} {us:List Value} {O:List (List Int)} (h:Hw B X w0 pz cs qn kn qo ko i L us O)
 (hB:B≤w0.heap.size) (hb3:Below w0.heap.size w0 w3) (x:Nd) (hx:Bud w3 x.pb x.n x.bf x.bt x.F x.T) (hi:Inv x.n x.F x.T) (h1:w0.heap.size≤x.pb) (h2:w0.heap.size≤x.bf) (h3:w0.heap.size≤x.bt)
 {g cap:Nat} {D:List Int} {n:Nat} (hD:jR w3 g (ints D)) (hg:w0.heap.size≤g) (hgp:x.bf≠g∧x.bt≠g) (hn:D.length=n) (hcap:n≤cap) (hmx:cap≤maxLen)
 (K1:Keep [] w3 W1) (hg4:W1.grownBy w4 (Value.slice qn i kn).ownBlock) (ho4:(Value.slice qn' (i+1) kn').ownBlock=(Value.slice qn i kn).ownBlock∨(Value.slice qn' (i+1) kn').ownBlock=some W1.heap.size)
 (on4:w4.ownsRow (pz+1) 179 1 (.slice qn' (i+1) kn') (i+1) (ptrs (L++[x])))
 (K2:Keep [] w4 W2) (hg6:W2.grownBy w6 (Value.slice qo i ko).ownBlock) (ho6:(Value.slice qo' (i+1) ko').ownBlock=(Value.slice qo i ko).ownBlock∨(Value.slice qo' (i+1) ko').ownBlock=some W2.heap.size)
 (oo6:w6.ownsRow (pz+1) 59 1 (.slice qo' (i+1) ko') (i+1) (us++[.slice (some ⟨g,0,none⟩) n cap]))
 (hcs:cs.length=5) (e7:w7=(w6.setCell ⟨pz,5,none⟩ (.slice qn' (i+1) kn')).setCell ⟨pz,6,none⟩ (.slice qo' (i+1) ko')):
 Hw B X w7 pz cs qn' kn' qo' ko' (i+1) (L++[x]) (us++[.slice (some ⟨g,0,none⟩) n cap]) (O++[D])∧Keep (pz::(jS (.slice qn i kn)++jS (.slice qo i ko))) w3 w7:=by
 have s3:=hb3.size;have zl:=h.z.lt;have sW1:=K1.size;have s4:=hg4.size;have sW2:=K2.size;have s6:=hg6.size;have onl: ∀a∈jS (.slice qn i kn),pz+1≤a∧a<w0.heap.size:=fun a ha=>jZ h.on ha
 have ool: ∀a∈jS (.slice qo i ko),pz+1≤a∧a<w0.heap.size:=fun a ha=>jZ h.oo ha
 have on4l: ∀a∈jS (.slice qn' (i+1) kn'),pz+1≤a∧a<w4.heap.size:=fun a ha=>jZ on4 ha
 have onew: ∀a∈jS (.slice qn' (i+1) kn'),a∈jS (.slice qn i kn)∨w3.heap.size≤a:=fun a ha=>(oM ho4 a ha).imp id (fun r=>om)
 have Vw: ∀a∈jS (.slice qo' (i+1) ko'),a∈jS (.slice qo i ko)∨w4.heap.size≤a:=fun a ha=>(oM ho6 a ha).imp id (fun r=>om)
 have k34:Keep (jS (.slice qn i kn)) w3 w4:=(K1.mono (fun s hs=>by cases hs)).then (kJ hg4);have k46:Keep (jS (.slice qo i ko)) w4 w6:=(K2.mono (fun s hs=>by cases hs)).then (kJ hg6);have k67:Keep [pz] w6 w7:=by rw[e7];exact((Keep.refl _ _).setCell (.inl sI) _).setCell (.inl sI) _
 have k47:Keep (pz::jS (.slice qo i ko)) w4 w7:=(k46.mono (fun s hs=>ak _ hs)).then (k67.mono (fun s hs=>by simp at hs;simp[hs]));have k37:Keep (pz::(jS (.slice qn i kn)++jS (.slice qo i ko))) w3 w7:=(k34.mono (fun s hs=>by simp[hs])).then (k47.mono (fun s hs=>by simp at hs ⊢;rcases hs with q|q;(·exact .inl q);(·exact .inr (.inr q))));have z3:=h.z.go hb3;have z6:jR w6 pz (cs++[.slice qn i kn,.slice qo i ko]):=(z3.keep k34 (fun q=>by have:=onl _ q;omega)).keep k46 (fun q=>by have:=ool _ q;omega);have z7:jR w7 pz (cs++[.slice qn' (i+1) kn',.slice qo' (i+1) ko']):=by
  have:=(z6.store 5 (.slice qn' (i+1) kn') (by simp[hcs])).store 6 (.slice qo' (i+1) ko') (by simp[hcs]);rw[e7];simpa[List.set_append,hcs] using this
 have bu3:=h.b.snoc hb3 x hx hi hB h1 h2 h3;have farn: ∀a,a=x.pb∨a=x.bf∨a=x.bt→a<w3.heap.size∧w0.heap.size≤a:=fun a ha=>by
  rcases ha with rfl|rfl|rfl
  ·exact⟨hx.ltp,h1⟩
  ·exact⟨hx.ltf,h2⟩
  ·exact⟨hx.ltt,h3⟩
 have far0: ∀y∈L++[x],∀a,a=y.pb∨a=y.bf∨a=y.bt→a<w3.heap.size∧a≠pz∧a∉jS (.slice qn i kn)∧a∉jS (.slice qo i ko):=fun y hy a ha=>by
  rcases aD.1 hy with q|q
  ·obtain⟨f1,f2,f3⟩:=h.far y q a ha
   have b0:=(h.b.bud y q).1;have:a<w0.heap.size:=by
    rcases ha with rfl|rfl|rfl
    ·exact b0.ltp
    ·exact b0.ltf
    ·exact b0.ltt
   exact⟨om,f1,f2,f3⟩
  ·simp at q;subst q
   obtain⟨f1,f2⟩:=farn a ha;exact⟨f1,om,fun q=>by have:=onl _ q;omega,fun q=>by have:=ool _ q;omega⟩
 have bu7:Jd B w7 (L++[x]):=bu3.keep k37 (fun y hy=>by
  have a1:=far0 y hy _ (.inl rfl);have a2:=far0 y hy _ (.inr (.inl rfl));have a3:=far0 y hy _ (.inr (.inr rfl));simp only[aB,aD,not_or];exact⟨a1.2,a2.2,a3.2⟩)
 have on7:w7.ownsRow (pz+1) 179 1 (.slice qn' (i+1) kn') (i+1) (ptrs (L++[x])):=jQ on4 k47 (fun a ha q=>by
  have l4:=on4l a q;simp at ha;rcases ha with rfl|ha
  ·omega
  ·rcases onew a q with r|r
   ·exact h.ne a r ha
   ·have:=ool a ha;omega)
 have oo7:w7.ownsRow (pz+1) 59 1 (.slice qo' (i+1) ko') (i+1) (us++[.slice (some ⟨g,0,none⟩) n cap]):=jQ oo6 k67 (fun a ha q=>by
  simp at ha;subst ha;have:=jZ oo6 q;omega)
 have gl:g<w3.heap.size:=hD.lt;have hSS: ∀s∈pz::(jS (.slice qn i kn)++jS (.slice qo i ko)),s∈ys L++pz::(jS (.slice qn i kn)++jS (.slice qo i ko)):=fun s hs=>aj _ hs
 refine⟨⟨z7,on7,oo7,fun a ha hb=> ?_,bu7,fun y hy a ha=> ?_,fun j u D' hj hD'=> ?_,by simp[h.lO],by simp[h.lL],by simp[h.lu]⟩,k37⟩
 ·rcases onew a ha with r|r
  ·rcases Vw a hb with r2|r2
   ·exact h.ne a r r2
   ·have:=onl a r;omega
  ·rcases Vw a hb with r2|r2
   ·have:=ool a r2;omega
   ·have:=(on4l a ha).2;omega
 ·obtain⟨f1,f2,f3,f4⟩:=far0 y hy a ha
  exact⟨f2,fun q=>by rcases onew a q with r|r;(·exact f3 r);(·omega),fun q=>by rcases Vw a q with r|r;(·exact f4 r);(·omega)⟩
 ·by_cases e:j<us.length
  ·rw[bJ e] at hj
   rw[bJ (by rw[h.lO,←h.lu];exact e)] at hD';have r0:=(h.rows j u D' hj hD').below hb3;have r1:=(h.rows j u D' hj hD').more (Y:=(ys (L++[x])++pz::(jS (.slice qn' (i+1) kn')++jS (.slice qo' (i+1) ko')))++(ys L++pz::(jS (.slice qn i kn)++jS (.slice qo i ko)))) (fun y hy=>by
    simp only[Bv,aD,aB] at hy ⊢;rcases hy with((hy|hy)|hy|hy|hy)|hy
    ·exact .inl (.inl hy)
    ·simp at hy;rcases hy with rfl|rfl<;>exact .inr om
    ·exact .inl (.inr (.inl hy))
    ·rcases onew y hy with r|r
     ·exact .inl (.inr (.inr (.inl r)))
     ·exact .inr om
    ·rcases Vw y hy with r|r
     ·exact .inl (.inr (.inr (.inr r)))
     ·exact .inr om
    ·exact .inl hy)
   exact((r1.below hb3).keep k37 (fun s hs=>.inl (aj _ (hSS s hs)))).sub (fun y hy=>av _ hy)
  ·have hl:=(au.1 hj).1
   simp at hl;have e2:j=us.length:=om;subst e2;rw[bP (aI _)] at hj;rw[h.lu,←h.lO,bP (aI _)] at hD';simp at hj hD';subst hj hD';have r3:nO ((ys (L++[x])++pz::(jS (.slice qn' (i+1) kn')++jS (.slice qo' (i+1) ko')))++(pz::(jS (.slice qn i kn)++jS (.slice qo i ko)))) w3 (.slice (some ⟨g,0,none⟩) n cap) (ints D):=by
    have:=xZ (X:=(ys (L++[x])++pz::(jS (.slice qn' (i+1) kn')++jS (.slice qo' (i+1) ko')))++(pz::(jS (.slice qn i kn)++jS (.slice qo i ko)))) (cap:=cap) hD (fun q=>by
     simp only[Bv,aD,aB] at q;rcases q with((q|q)|q|q|q)|q|q|q
     ·have:=(h.b.lim g q).2;omega
     ·simp at q;rcases q with q|q
      ·exact hgp.1 q.symm
      ·exact hgp.2 q.symm
     ·omega
     ·rcases onew g q with r|r
      ·have:=onl g r;omega
      ·omega
     ·rcases Vw g q with r|r
      ·have:=ool g r;omega
      ·omega
     ·omega
     ·have:=onl g q;omega
     ·have:=ool g q;omega) (by rw[lV];omega) hmx
    rwa [lV,hn] at this
   exact(r3.keep k37 (fun s hs=>.inl (aj _ hs))).sub (fun y hy=>av _ hy)
def Aa (X:List Nat) (P:List Int) (N:List (List Int)) (w w1:World) (n:Nat) (cs:List Value) (i:Nat) (qn qo:Option Addr) (kn ko:Nat) (L:List Nd) (us:List Value) (O:List (List Int)) (wr:World):Prop:=
 Hw w.heap.size X wr w1.heap.size cs qn kn qo ko i L us O∧L.map (·.n)=P.take i∧(∀x∈L,x.F=wm 0 x.n∧x.T=[])∧(∀(j:Nat) (l D:List Int),N[j]?=some l→O[j]?=some D→ug l n D)∧Below w1.heap.size w1 wr
theorem Aa.next {X:List Nat} {P:List Int} {N:List (List Int)} {w w1 wr w2 w3 W1 w4 W2 w6:World} {n i:Nat} {cs:List Value} {qn qo qn' qo':Option Addr} {kn ko kn' ko':Nat} {L:List Nd} {us:List Value} {O:List (List Int)} (h:Aa X P N w w1 n cs i qn qo kn ko L us O wr)
 (KW:Below w.heap.size w wr) (hb2:Below wr.heap.size wr w2) (hb3:Below w2.heap.size w2 w3) {pb bf bt:Nat} {x:Int} (Gt:Bud w2 pb x bf bt (wm 0 x) []) (hx:1≤x∧x≤256) (g1:wr.heap.size≤pb) (g2:wr.heap.size≤bf) (g3:wr.heap.size≤bt)
 {g cp:Nat} {D l:List Int} (hD:jR w3 g (ints D)) (hg:w2.heap.size≤g) (hO:ug l n D) (hcap:n≤cp) (hmx:cp≤maxLen) (hP:P[i]?=some x) (hN:N[i]?=some l)
 (K1:Keep [] w3 W1) (hg4:W1.grownBy w4 (Value.slice qn i kn).ownBlock) (ho4:(Value.slice qn' (i+1) kn').ownBlock=(Value.slice qn i kn).ownBlock∨(Value.slice qn' (i+1) kn').ownBlock=some W1.heap.size)
 (on4:w4.ownsRow (w1.heap.size+1) 179 1 (.slice qn' (i+1) kn') (i+1) (ptrs L++[.pointer (some ⟨pb,0,none⟩)]))
 (K2:Keep [] w4 W2) (hg6:W2.grownBy w6 (Value.slice qo i ko).ownBlock) (ho6:(Value.slice qo' (i+1) ko').ownBlock=(Value.slice qo i ko).ownBlock∨(Value.slice qo' (i+1) ko').ownBlock=some W2.heap.size)
 (oo6:w6.ownsRow (w1.heap.size+1) 59 1 (.slice qo' (i+1) ko') (i+1) (us++[.slice (some ⟨g,0,none⟩) n cp])) (hcs:cs.length=5):
 Aa X P N w w1 n cs (i+1) qn' qo' kn' ko' (L++[⟨pb,bf,bt,x,wm 0 x,[]⟩]) (us++[.slice (some ⟨g,0,none⟩) n cp]) (O++[D]) ((w6.setCell ⟨w1.heap.size,5,none⟩ (.slice qn' (i+1) kn')).setCell ⟨w1.heap.size,6,none⟩ (.slice qo' (i+1) ko')):=by
 obtain⟨st,hLn,hLF,hOO,hbel⟩:=h;have z2:=hb2.size;have hlf:=Gt.ltf;have hlt:=Gt.ltt;have zl:=st.z.lt;obtain⟨s1,k37⟩:=st.step KW.size (hb2.trans (hb3.mono z2)) ⟨pb,bf,bt,x,wm 0 x,[]⟩ (Gt.below hb3) (Inv.start hx.1 hx.2) g1 g2 g3 hD om (by simp;omega) hO.len hcap hmx K1 hg4 ho4 (by rw[Vf];exact on4) K2 hg6 ho6 oo6 hcs rfl;refine⟨s1,?_,fun y hy=> ?_,fun j l' D' hj hD'=> ?_,?_⟩
 ·rw[dz,hLn,bR,hP];rfl
 ·rcases aD.1 hy with q|q
  ·exact hLF y q
  ·simp at q;subst q;exact⟨rfl,rfl⟩
 ·by_cases e:j<O.length
  ·rw[bJ e] at hD'
   exact hOO j l' D' hj hD'
  ·have hl:=(au.1 hD').1
   simp at hl;have e2:j=i:=by have:=st.lO;omega
   subst e2;rw[hN] at hj;obtain rfl:=aO hj;rw[bP om] at hD';have:j-O.length=0:=om;rw[this] at hD';simp at hD';subst hD';exact hO
 ·have z3:=hb3.size
  have zr:=hbel.size;refine hbel.trans (((hb2.mono zr).trans (hb3.mono om)).trans (k37.below om fun s hs=> ?_));simp at hs;rcases hs with rfl|hs|hs
  ·exact aI _
  ·have:=jZ st.on hs;omega
  ·have:=jZ st.oo hs;omega
theorem Aa.fin {X:List Nat} {P:List Int} {N:List (List Int)} {w w1 wr:World} {n:Nat} {u0 u1:Value} {mn lw hi:Int} {qn qo:Option Addr} {kn ko:Nat} {L:List Nd} {us:List Value} {O:List (List Int)} (h:Aa X P N w w1 n [u0,u1,.int .i64 mn,.int .i64 lw,.int .i64 hi] n qn qo kn ko L us O wr)
 (hm:0≤mn∧mn≤lw∧lw≤hi∧hi≤9223372036854775807) (hN:N.length=n):
 pR w.heap.size ((wr.setCell ⟨w1.heap.size,0,none⟩ (.slice none 0 0)).setCell ⟨w1.heap.size,1,none⟩ (.slice none 0 0)) w1.heap.size mn lw hi O L:=by
 obtain⟨st,hLn,hLF,hOO,hbel⟩:=h;have lL:=st.lL;have k:Keep [w1.heap.size] wr ((wr.setCell ⟨w1.heap.size,0,none⟩ (.slice none 0 0)).setCell ⟨w1.heap.size,1,none⟩ (.slice none 0 0)):=((Keep.refl _ _).setCell (p:=⟨w1.heap.size,0,none⟩) (.inl sI) _).setCell (p:=⟨w1.heap.size,1,none⟩) (.inl sI) _;have hy: ∀y∈ys L,y≠w1.heap.size∧y∉jS (.slice qn n kn)∧y∉jS (.slice qo n ko):=fun y hy=>by
  obtain⟨x,hx,q⟩:=vY.1 hy;exact st.far x hx y (.inr q)
 refine⟨⟨qn,kn,qo,ko,?_,?_,?_⟩,?_,?_,?_,hm⟩
 ·rw[lL]
  exact(st.z.store 0 (.slice none 0 0) sI).store 1 (.slice none 0 0) sI
 ·rw[lL]
  have lp:(ptrs L).length=n:=by rw[yc];exact lL
  have o:=st.on;rw[←lp] at o hy ⊢;have r:=qA (X:=w1.heap.size::ys L) o (fun x hx g hg e=>by
   rcases aB.1 hx with rfl|hx
   ·have:=o.lt g hg;omega
   ·exact(hy x hx).2.1 (o7.2 (e▸hg)))
  exact(r.keep k (fun s hs=>by simp at hs;subst hs;exact .inl sI)).sub (fun s hs=>ak _ hs)
 ·rw[lL]
  refine⟨us,by rw[st.lu,st.lO],?_,fun j u D hj hD=> ?_⟩
  ·have o:=st.oo
   have lu:=st.lu;rw[←lu] at o hy ⊢;have r:=qA (X:=w1.heap.size::ys L) o (fun x hx g hg e=>by
    rcases aB.1 hx with rfl|hx
    ·have:=o.lt g hg;omega
    ·exact(hy x hx).2.2 (o7.2 (e▸hg)))
   exact(r.keep k (fun s hs=>by simp at hs;subst hs;exact .inl sI)).sub (fun s hs=>ak _ hs)
  ·have r:=st.rows j u D hj hD
   exact(r.keep k (fun s hs=>by simp at hs;subst hs;exact .inl sI)).sub (fun s hs=>av _ hs)
 ·exact st.b.keep k (fun x hx=>by
   have a1:=(st.far x hx _ (.inl rfl)).1;have a2:=(st.far x hx _ (.inr (.inl rfl))).1;have a3:=(st.far x hx _ (.inr (.inr rfl))).1;simp;exact⟨a1,a2,a3⟩)
 ·exact fun q=>(hy _ q).1 rfl
 ·refine⟨by rw[st.lO,lL],fun D hD=> ?_⟩
  obtain⟨j,hj⟩:=dA hD;have hjl:=(au.1 hj).1;have hjn:j<N.length:=by rw[hN,←st.lO];exact hjl
  have o:=hOO j N[j] D (aA hjn) hj;rw[lL];exact⟨o.len,o.mem⟩
def NewPost (P:List Int) (N:List (List Int)) (mn lw hi:Int) (w:World) (e:Ending) (w':World):Prop:=
 ∃(pz:Nat) (O:List (List Int)) (L:List Nd),e= .returned (.tuple #[.pointer (some ⟨pz,0,none⟩),.nilIface])∧pR w.heap.size w' pz mn lw hi O L∧w.heap.size≤pz∧L.map (·.n)=P∧(∀x∈L,x.F=wm 0 x.n∧x.T=[])∧(∀(i:Nat) (l D:List Int),N[i]?=some l→O[i]?=some D→ug l P.length D)∧Below w.heap.size w w'
theorem Tc {B:Nat} {ev:Nat→Addr} (X:List Nat) (vP vN:Value) (P:List Int) (N:List (List Int)) (mn lw hi:Int) (w:World) (hE:Ap B ev w) (h:Cfg X w vP vN P N) (hc:uF P N mn lw hi=0) (hhi:hi≤9223372036854775807):
 Calls prog 44 #[.agg #[vP,vN,.int .i64 mn,.int .i64 lw,.int .i64 hi]] w (NewPost P N mn lw hi w):=by
 have hB:=hE.size;obtain⟨c1,c2,c3,c4,c5,c6,c7,c8⟩:=Vv hc;obtain⟨p,cap,rfl,hcp,hmx,hcl⟩:=h.p.int;obtain⟨q,k,rfl,hck,hkm,_⟩:=h.n.form;have L0:jR (w.alloc (.cells [.slice p P.length cap,.slice q N.length k,.int .i64 mn,.int .i64 lw,.int .i64 hi].toArray 103)) w.heap.size [.slice p P.length cap,.slice q N.length k,.int .i64 mn,.int .i64 lw,.int .i64 hi]:=jR.new w _ _;have hb0:Below w.heap.size w (w.alloc (.cells [.slice p P.length cap,.slice q N.length k,.int .i64 mn,.int .i64 lw,.int .i64 hi].toArray 103)):=jY;have CH:=GR X _ _ P N mn lw hi _ (hE.below (hb0.mono hB)) (h.below hb0);rw[hc,show kM ev 0=Value.nilIface from rfl] at CH;have CH':=ah CH;have HL0:=ah L0;have HB0:=ah hb0;have HH:=ah h;have HC:=ah hc;have CLl:=ah hcl;have C3:=ah c3;have C4:=ah c4;have C5:=ah c5;obtain⟨n,hn⟩:=eY P.length;rw[c4] at HL0 HB0 HH CH' hck ⊢;rw[←hn] at c1 c2 HL0 HB0 HH CH' hck hcp ⊢;have HN:=ah hn;have C4':Hid (N.length=n):=by show _=_;rw[C4.out];exact HN.out.symm
 unfold maxLen at hmx hkm;clear CH h hc hn hb0 L0 c3 c4 c5 hcl;go_in
 go_wp2_with fail;refine CH'.out.mono ?_;rintro e w1 ⟨rfl,hb1⟩;have K1:Below w.heap.size w w1:=HB0.out.trans (hb1.mono sI);have M0:=ah (HL0.out.go hb1);have z1:=K1.size;have m0:=M0.out.gC 0;have m1:=M0.out.gC 1;have m2:=M0.out.gC 2;have m3:=M0.out.gC 3;have m4:=M0.out.gC 4;have ml:=M0.out.lt;clear CH' HL0 HB0 hb1;have ST0:Hid (Hw w.heap.size X (w1.alloc (.cells #[.slice p n cap,.slice q n k,.int .i64 mn,.int .i64 lw,.int .i64 hi,.slice none 0 0,.slice none 0 0] 178)) w1.heap.size [.slice p n cap,.slice q n k,.int .i64 mn,.int .i64 lw,.int .i64 hi] none 0 none 0 0 [] [] []):=Hw.start (jR.new w1 [.slice p n cap,.slice q n k,.int .i64 mn,.int .i64 lw,.int .i64 hi,.slice none 0 0,.slice none 0 0] _);have B0:Below w1.heap.size w1 (w1.alloc (.cells #[.slice p n cap,.slice q n k,.int .i64 mn,.int .i64 lw,.int .i64 hi,.slice none 0 0,.slice none 0 0] 178)):=jY;go_wp2_with fail;go_loopw [22] (fun iv wr=>∃(i:Nat) (qn qo:Option Addr) (kn ko:Nat) (L:List Nd) (us:List Value) (O:List (List Int)),i≤n∧iv= .int .i64 i∧Aa X P N w w1 n [.slice p n cap,.slice q n k,.int .i64 mn,.int .i64 lw,.int .i64 hi] i qn qo kn ko L us O wr) (fun iv _=>n-(intOf iv).toNat);case atStart=>exact⟨0,none,none,0,0,[],[],[],bq _,by go_num,ST0.out,(show _=_ by simp),(fun x hx=>by cases hx),(fun j l D _ hD=>by simp at hD),B0⟩
 case round=>
  obtain⟨i,qn,qo,kn,ko,L,us,O,hiN,rfl,hR⟩:=hrel;have HR:=ah hR;have ST:=ah hR.1;have hbel:=hR.2.2.2.2;clear hR ST0 B0;have zr:=hbel.size;have zl:w1.heap.size<wr.heap.size:=ST.out.z.lt;have KW:Below w.heap.size w wr:=K1.trans (hbel.mono z1);by_cases hin:i<n
  ·obtain⟨x,hx⟩: ∃x,P[i]?=some x:=⟨P[i]'(by rw[←HN.out];exact hin),aA _⟩
   obtain⟨l,hl⟩: ∃l,N[i]?=some l:=⟨N[i]'(by rw[C4.out,←HN.out];exact hin),aA _⟩;obtain⟨gp,op,rfl,_,hgp,hcx⟩:=CLl.out i x hx;have r1:=(KW.cell (p:=⟨gp,op+i,none⟩) hgp).trans hcx;have gr:gp<wr.heap.size:=om;have hxr:=C3.out x (aF hx);have NB:=ah (new_ok x wr hxr.1 hxr.2);have HX1:=ah hx;have HL1:=ah hl;clear hcx hx hl;go_wp2_with fail;refine NB.out.mono ?_;rintro e w2 ⟨pb,bf,bt,rfl,Gt,⟨g1,g2,g3⟩,hb2⟩;have HBU:=ah Gt;have z2:=hb2.size;have K2:Below w.heap.size w w2:=KW.trans (hb2.mono om);have M2:=((M0.out.go hbel).go hb2);have a0:=M2.gC 0;have a1:=M2.gC 1;have a2:=M2.gC 2;have a3:=M2.gC 3;have a4:=M2.gC 4;have al:=M2.lt;have OK':=order_ok X _ _ P N mn lw hi i l w2 (hE.below (K2.mono hB)) (HH.out.below K2) HC.out HL1.out (C5.out l (aF HL1.out)) C4.out (by rw[←HN.out];exact c2);rw[←HN.out] at OK';have OK2:=ah OK';clear NB Gt M2 OK';go_wp2_with fail;refine OK2.out.mono ?_;rintro e w3 ⟨g,cp,D,rfl,hO,hD,hg,hgc,hgm,hb3⟩;have KR3:Below wr.heap.size wr w3:=hb2.trans (hb3.mono z2);have HOD:=ah hO;have HDD:=ah hD;have Z3:=ah (ST.out.z.go KR3);have y5:=Z3.out.gC 5;have y6:=Z3.out.gC 6;have yl:=Z3.out.lt;have z3:=KR3.size;clear hO hD OK2 a0 a1 a2 a3 a4 al;have lp:(ptrs L).length=i:=by rw[yc];exact ST.out.lL
   have lu:=ST.out.lu;have ON:Hid (∀W,Keep [] w3 W→W.ownsRow (w1.heap.size+1) 179 1 (.slice qn i kn) (ptrs L).length (ptrs L)):=fun W k=>by rw[lp];exact jQ ST.out.on ((Keep.of (S:=[]) KR3).then k) (fun x hx=>by cases hx)
   have Z4:Hid (∀W1 w4 W2,Keep [] w3 W1→W1.grownBy w4 (Value.slice qn i kn).ownBlock→Keep [] w4 W2→jR W2 w1.heap.size [.slice (some ⟨gp,op,none⟩) n cap,.slice q n k,.int .i64 mn,.int .i64 lw,.int .i64 hi,.slice qn i kn,.slice qo i ko]):=fun W1 w4 W2 k1 hg k2=>((Z3.out.keep k1 sI).keep (kJ hg) (fun hq=>by have:=jZ ST.out.on hq;omega)).keep k2 sI
   have OO:Hid (∀W1 w4 W2,Keep [] w3 W1→W1.grownBy w4 (Value.slice qn i kn).ownBlock→Keep [] w4 W2→W2.ownsRow (w1.heap.size+1) 59 1 (.slice qo i ko) us.length us):=fun W1 w4 W2 k1 hg k2=>by
    rw[lu];exact jQ (jQ (jQ ST.out.oo ((Keep.of (S:=[]) KR3).then k1) (fun x hx=>by cases hx)) (kJ hg) (fun x hx q=>ST.out.ne x hx q)) k2 (fun x hx=>by cases hx)
   have Z6:Hid (∀W1 w4 W2 w6,Keep [] w3 W1→W1.grownBy w4 (Value.slice qn i kn).ownBlock→Keep [] w4 W2→W2.grownBy w6 (Value.slice qo i ko).ownBlock→jR w6 w1.heap.size [.slice (some ⟨gp,op,none⟩) n cap,.slice q n k,.int .i64 mn,.int .i64 lw,.int .i64 hi,.slice qn i kn,.slice qo i ko]):=fun W1 w4 W2 w6 k1 hg k2 hg6=>(Z4.out W1 w4 W2 k1 hg k2).keep (kJ hg6) (fun hq=>by have:=jZ ST.out.oo hq;omega)
   have NOX:Hid (∀b,w3.heap.size≤b→b∉jS (.slice qn i kn)):=fun b hb q=>by have:=(jZ ST.out.on q).2;omega
   have SZ:Hid (∀W,Keep [] w3 W→w1.heap.size+1≤W.heap.size):=fun W k=>by have:=k.size;omega
   have E4:Hid ((ptrs L++[Value.pointer (some ⟨pb,0,none⟩)]).length=i+1):=by show _=_;simp[lp]
   have E6:Hid ((us++[Value.slice (some ⟨g,0,none⟩) n cp]).length=i+1):=by show _=_;simp[lu]
   have HLP:=ah lp;have HLU:=ah lu;clear lp lu;go_wp2_with fail;go_region_law (first
    |(refine rU (base:=w1.heap.size+1) (v:=.slice qn i kn) (us:=ptrs L) (ms:=[.pointer (some ⟨pb,0,none⟩)]) elNode rf (.tmp 49) (.tmp 51) rf rf 1 rf rfl (ON.out _ (by repeat(first|exact Keep.refl _ _|refine Keep.alloc ?_ _|refine Keep.drew ?_))) (by refine FD ?_;(try simp only[gG]);first|(rw[bE _ _ _ _ (by first|omega|(simp;omega)|(simp;done))];rfl)|(rw[eZ _ _ _ (by first|omega|(simp;omega)|(simp;done))];rw[bE _ _ _ _ (by first|omega|(simp;omega)|(simp;done))];rfl)) (by intro x hx;simp at hx;subst hx;rfl) (by rw[HLP.out];simp;omega) (SZ.out _ (by repeat(first|exact Keep.refl _ _|refine Keep.alloc ?_ _|refine Keep.drew ?_))) ?_;intro qn' kn' w4 kV hg4 ho4;rw[E4.out] at kV ho4 ⊢;have X4:=Z4.out _ w4 w4 (by repeat(first|exact Keep.refl _ _|refine Keep.alloc ?_ _|refine Keep.drew ?_)) hg4 (Keep.refl _ _);have v6:=X4.gC 6;have vl:=X4.lt;clear X4)
    |(refine rU (base:=w1.heap.size+1) (v:=.slice qo i ko) (us:=us) (ms:=[.slice (some ⟨g,0,none⟩) n cp]) elRow rf (.tmp 56) (.tmp 58) rf rf 1 rf rfl (OO.out _ w4 _ (by repeat(first|exact Keep.refl _ _|refine Keep.alloc ?_ _|refine Keep.drew ?_)) hg4 (by repeat(first|exact Keep.refl _ _|refine Keep.alloc ?_ _|refine Keep.drew ?_))) (by refine FD ?_;(try simp only[gG]);first|(rw[bE _ _ _ _ (by first|omega|(simp;omega)|(simp;done))];rfl)|(refine(kJ hg4).cell0 (by first|omega|(simp;omega)|(simp;done)) (NOX.out _ (by first|omega|(simp;omega)|(simp;done))) ?_;(try simp only[gG]);first|(rw[bE _ _ _ _ (by first|omega|(simp;omega)|(simp;done))];rfl)|(rw[eZ _ _ _ (by first|omega|(simp;omega)|(simp;done))];rw[bE _ _ _ _ (by first|omega|(simp;omega)|(simp;done))];rfl))) (by intro x hx;simp at hx;subst hx;rfl) (by rw[HLU.out];simp;omega) (by have:=SZ.out _ (show Keep [] w3 _ from(by repeat(first|exact Keep.refl _ _|refine Keep.alloc ?_ _|refine Keep.drew ?_)));have:=hg4.size;have:=(show Keep [] w4 _ from(by repeat(first|exact Keep.refl _ _|refine Keep.alloc ?_ _|refine Keep.drew ?_))).size;simp at*;omega) ?_;intro qo' ko' w6 hown6 hg6 ho6;rw[E6.out] at hown6 ho6 ⊢;have X6:=Z6.out _ w4 _ w6 (by repeat(first|exact Keep.refl _ _|refine Keep.alloc ?_ _|refine Keep.drew ?_)) hg4 (by repeat(first|exact Keep.refl _ _|refine Keep.alloc ?_ _|refine Keep.drew ?_)) hg6;have s5:=X6.gC 5;have s6:=X6.gC 6;have f5:=X6.f 5 sI;have f6:=X6.f 6 sI;have sl:=X6.lt;clear X6))
   all_goals
    have NX:=Aa.next HR.out KW hb2 hb3 HBU.out hxr g1 g2 g3 HDD.out hg HOD.out hgc hgm HX1.out HL1.out (kep (Keep.refl _ _)) hg4 ho4 kV (kep (Keep.refl _ _)) hg6 ho6 hown6 rfl;clear v6 vl s5 s6 f5 f6 sl kV hown6 ho4 ho6 hg4 hg6;have HNX:=ah NX;clear NX;go_wp2;go_roundw;case rel=>exact⟨i+1,qn',qo',kn',ko',_,_,_,om,by go_num,HNX.out⟩
    case measure=>simp[intOf];omega
  ·have ei:i=n:=by omega
   subst ei;have Z:=ST.out.z;have a0:=Z.gC 0;have a1:=Z.gC 1;have f0:=Z.f 0 sI;have f1:=Z.f 1 sI;have al:=Z.lt;have FI:=ah (Aa.fin HR.out ⟨c6,c7,c8,hhi⟩ C4'.out);clear Z;have hmap:L.map (·.n)=P:=by rw[HR.out.2.1,HN.out,bU]
   have KW2:Below w.heap.size w wr:=K1.trans (hbel.mono z1);have HM:=ah hmap;clear hmap;go_wp2;go_ret2
   exact⟨w1.heap.size,O,L,rfl,FI.out,om,HM.out,HR.out.2.2.1,fun j l D hl hD=>by rw[←HN.out];exact HR.out.2.2.2.1 j l D hl hD,jY⟩
theorem Qe {n:Int} {F T:List (Int×Int)} (h:Inv n F T) (hs:oJ F=0):F=[]:=by
 cases F with
 |nil=>rfl
 |cons p r=>
  have h1:=p9 r;have h2:oJ (p::r)=sz p.2+oJ r:=rfl;have h3:0<sz p.2:=qh _;omega
theorem Vx {n:Int} {F T:List (Int×Int)} (h:Inv n F T) (hb:nD 0 F=none):oJ F=0:=by
 cases F with
 |nil=>rfl
 |cons p r=>
  have:=DY hb p sI;have:=(h.rngF (p:=p) sI).2.2.1;omega
theorem take_one {mn:Int} {O:List (List Int)} {x:Nd} (hO:rM O 1) (hI:Inv x.n x.F x.T):
 (oJ x.F=0→lQ mn O [x] 0 0 true=([x],5,(0,0,0)))∧
 (0<oJ x.F→∃b,nD 0 x.F=some b∧zX x.T b.1=none∧lQ mn O [x] 0 0 true=([y7 0 b x],0,(0,b.1,0))):=by
 obtain⟨D,hD,hl,hm,hc⟩:=y8 (mn:=mn) (u:=true) (k:=0) (L:=[x]) (v:=0) (by simpa using hO) sI;have h0:(0:Int)∈D:=(hm 0).2 sI;rcases hc with⟨hp,e⟩|⟨j,y,b,hp,j0,j1,hx,hk,hb,e⟩
 ·have hn:D5 mn 0 true [x] 0=false:=by
   have:=fB.1 hp 0 h0;simpa using this
  have hb:nD 0 x.F=none:=by
   simp only[D5,okN,mayN,Int.toNat_zero,List.getElem?_cons_zero,Bool.true_or,Bool.true_and] at hn;cases hq:nD 0 x.F with
   |none=>rfl
   |some b=>rw[hq] at hn;cases hn
  have hs:=Vx hI hb;have hF:=Qe hI hs;refine⟨fun _=> ?_,fun q=>om⟩;rw[e];have:Eh 0 [x]=5:=by unfold Eh yH;simp[hF]
  rw[this]
 ·obtain rfl:j=0:=by simp at j1;omega
  simp at hx;subst hx;refine⟨fun q=> ?_,fun _=>⟨b,hb,Em hI (oG hb).1,by rw[e];rfl⟩⟩;have:=Qe hI q;have h2:=(oG hb).1;rw[this] at h2;cases h2
theorem sum_ins (f:Sl→Nat) (C:List Sl) (s:Sl):((wC C s).map f).sum=(C.map f).sum+f s:=by
 have:((C.take (vZ s.nd s.pg C)).map f).sum+((C.drop (vZ s.nd s.pg C)).map f).sum=(C.map f).sum:=by
  rw[←List.sum_append,←dz,bX]
 unfold wC;simp only[dz,bH,List.sum_append,List.sum_cons];omega
theorem Vy (f:Sl→Nat): ∀(C:List Sl) (i:Nat) (s t:Sl),C[i]?=some s→((C.set i t).map f).sum+f s=(C.map f).sum+f t
 |[],i,s,t,h=>by simp at h
 |c::C,0,s,t,h=>by simp at h;subst h;simp;omega
 |c::C,i+1,s,t,h=>by
  have:=Vy f C i s t (by simpa using h);simp only[jg,bH,List.sum_cons];omega
theorem FH (f:Sl→Nat) (r:Nat): ∀(C:List Sl),(∀s∈C,f s=r)→(C.map f).sum=C.length*r
 |[],h=>sI
 |c::C,h=>by
  have:=FH f r C fun s q=>h s (ak _ q)
  have h1:=h c sI;simp[this,h1,Nat.succ_mul];omega
structure qV (pages:Nat) (e i:Nat) (c:Ca):Prop where
 inv:uR e c
 one: ∃x,c.L=[x]∧oJ x.F=pages-(c.C.length:Int)
 tk:tq c.C=i
section
variable {mn:Int} {O:List (List Int)} {pages e i:Nat} {c:Ca}
theorem qV.nd (h:qV pages e i c) {s:Sl} (hs:s∈c.C):s.nd=0:=by
 obtain⟨x,hx,_⟩:=h.one;have:=(h.inv.tk s hs).rng h.inv.zi;rw[hx] at this;simp at this;omega
theorem qV.none_ (h:qV pages e i c) (hb:oh 0 c.C c.C.length=none):i=c.C.length*kL e:=by
 rw[←h.tk];refine FH _ _ _ fun s hs=> ?_
 obtain⟨j,hj,hg⟩:=iP.1 hs;have h1:=zG hb j s hj (au.2 ⟨hj,hg⟩) (h.nd hs);have h2:kK s≤s.T.length:=qR _;rw[←h.inv.len s hs];omega
theorem qV.take (h:qV pages e i c) (hO:rM O 1) (hi:i<pages*kL e):
 (takeC mn O e c 0 true).2.1=0∧(takeC mn O e c 0 true).2.2.1=0∧qV pages e (i+1) (takeC mn O e c 0 true).1:=by
 have hI:=wL (mn:=mn) (O:=O) (v:=0) (u:=true) (by obtain⟨x,hx,_⟩:=h.one;rw[hx];exact hO) h.inv;obtain⟨x,hx,hs⟩:=h.one;have hv: ¬((0:Int)<0∨(c.L.length:Int)≤0):=by rw[hx];simp
 revert hI;unfold takeC;rw[if_neg hv];cases hb:oh 0 c.C c.C.length with
 |some k=>
  obtain⟨_,s,hk,hn,hm⟩:=mV hb;simp only[hk];intro hI;refine⟨trivial,by rw[vK];exact hn,hI,⟨x,hx,by simpa using hs⟩,?_⟩;obtain⟨f1,f2,_⟩:=mX hm;have h1:=yI f2 true;have h2:=Vy kK c.C k s (oH s (lG s.T) true) hk;have h3:=h.tk;have h4:kK (oH s (lG s.T) true)=oQ (s.T.set (lG s.T) true):=rfl;have h5:kK s=oQ s.T:=rfl;show((c.C.set k (oH s (lG s.T) true)).map kK).sum=i+1;have h6:(c.C.map kK).sum=i:=h3;simp only[if_true,fK,if_false] at h1;omega
 |none=>
  have hfull:=h.none_ hb;have hlt:c.C.length<pages:=by
   rcases dU c.C.length pages with q|q
   ·exact q
   ·have:=iQ (kL e) q
    omega
  obtain⟨b,hbb,hf,et⟩:=(take_one (mn:=mn) hO (h.inv.zi x (by rw[hx];simp))).2 om;simp only[hx,et,if_true];intro hI;refine⟨trivial,trivial,hI,⟨y7 0 b x,rfl,?_⟩,?_⟩
  ·rw[Jy]
   show oJ (uz 0 b x.F)=_;rw[(h.inv.zi x (by rw[hx];simp)).Fv om hbb,hs];have:sz 0=1:=rfl;push_cast;omega
  ·have h1:=sum_ins kK c.C (oH ⟨0,b.1,kU e⟩ 0 true)
   have h3:(c.C.map kK).sum=i:=h.tk;have h4:=rZ h.inv.e1 h.inv.e2;have h5:=yI (T:=kU e) (k:=0) (b:=false) (by unfold kU;simp[fF];omega) true;have h6:=xC e;have h7:kK (oH ⟨0,b.1,kU e⟩ 0 true)=oQ ((kU e).set 0 true):=rfl;show((wC c.C (oH ⟨0,b.1,kU e⟩ 0 true)).map kK).sum=i+1;simp only[if_true,fK,if_false] at h5;omega
end
theorem eqO (a k b m:Int) (w:World):(binOp .eql 40 (.agg #[.int .i64 a,.int .i64 k]) (.agg #[.int .i64 b,.int .i64 m])).run prog w= .ok (.bool (a==b&&k==m)) w:=by
 have u3:=bB;have a3:=gZ;have z3:=gK;have hS:prog.underlying 40=some (.struct (prog.fieldsOf 40)):=kR;have hp:prog.stoodInHeld 40=false:=kR;rw[run_eql_struct,show(10000:Nat)=9999+1 from rfl,run_equalIn_agg w 9999 40 _ _ hS hp];simp only[Program.fieldsOf,iK];go_simp
 by_cases h1:a=b<;>by_cases h2:k=m<;>simp[h1,h2]
theorem wQ:prog.eqGuardType prog.depth 40=false:=kR
theorem cov_sum {n:Int} (n0:0≤n):oJ (wm 0 n)=n:=by
 have:=Gz (uT n.toNat 0 n (aI _) n0);omega
theorem qV.start {pages e:Nat} {x:Nd} (hI:Inv x.n x.F x.T) (e1:1≤e) (e2:e≤64) (hF:x.F=wm 0 pages):qV pages e 0 ⟨[x],[]⟩:=
 ⟨⟨e1,e2,fun y hy=>by simp at hy;subst hy;exact hI,sI,List.Pairwise.nil,fun s hs=>(by cases hs),fun s hs=>(by cases hs)⟩,⟨x,rfl,by rw[hF,cov_sum om];simp⟩,rfl⟩
theorem FJ: ∀{C:List Sl},(∀s∈C,s.T.length≤64)→tq C≤yK C∧yK C≤64*C.length
 |[],_=>⟨aI _,aI _⟩
 |s::C,h=>by
  obtain⟨h1,h2⟩:=FJ (C:=C) fun x hx=>h x (ak _ hx)
  have h3:=h s sI;have h4:kK s≤s.T.length:=qR _;unfold tq yK at*
  simp only[bH,List.sum_cons,dB];omega
section
variable {B:Nat} {ev:Nat→Addr} {pc pz e:Nat} {mn lw hi:Int} {O:List (List Int)} {X:List Nat} {vs:Value} {A:SA} {c:Ca} {w:World}
theorem Vz (v:Int) (u:Bool) (hE:Ah B ev w) (h:CS B w pc pz mn lw hi O e X vs A c) (hI:uR e c):
 Calls prog 75 #[.pointer (some ⟨pc,0,none⟩),.int .i64 v,.bool u] w (yj B ev pc pz mn lw hi O e X vs A c w (takeC mn O e c v u)):=by
 by_cases hv:v<0∨(c.L.length:Int)≤v
 ·exact Vq v u hE h hv
 ·obtain⟨n,rfl⟩: ∃n:Nat,v=n:=⟨v.toNat,om⟩
  exact Ta n u hE h hI hE.size om
theorem CS.new {L:List Nd} (h:pR B w pz mn lw hi O L) (hL:0<L.length) (hB:B≤w.heap.size) (e:Nat):
 CS B (w.alloc (.cells #[.pointer (some ⟨pz,0,none⟩),.int .i64 e,.slice none 0 0] 186)) w.heap.size pz mn lw hi O e (w.heap.size::ys L) (.slice none 0 0) [] ⟨L,[]⟩:=by
 have b:Below w.heap.size w (w.alloc (.cells #[.pointer (some ⟨pz,0,none⟩),.int .i64 e,.slice none 0 0] 186)):=jY;have hc:cay w.heap.size (.slice none 0 0) []=[w.heap.size]:=rfl;refine⟨(h.toX.more (fun x hx=>ak _ hx) (fun y hy=> ?_)).below b,⟨jR.mk_ w [.pointer (some ⟨pz,0,none⟩),.int .i64 e,.slice none 0 0] 186 rfl,⟨rfl,.inl ⟨rfl,rfl⟩⟩,rfl,fun i p s hp=>by simp at hp,fun y hy=> ?_,?_,fun y hy=> ?_⟩,fun y hy q=> ?_,hL⟩
 ·rcases aB.1 hy with rfl|q
  ·exact .inr (aI _)
  ·exact .inl q
 ·rw[hc] at hy;simp at hy;subst hy;exact aG ..
 ·rw[hc];simp
 ·rw[hc] at hy;simp at hy;subst hy;simp;exact hB
 ·rw[hc] at hy;simp at hy;subst hy
  have:=(h.b.lim _ q).2;omega
end
theorem Ev (e:Nat) (C:List Sl):(qj e C).length=tq C:=by
 unfold qj tq;rw[List.length_flatMap];congr 1
 refine fq fun s _=> ?_
 unfold obsS kK oQ;rw[List.length_filterMap_eq_countP];have key: ∀T:List Bool,(List.range T.length).countP (fun k=>(if T[k]?=some true then some (vK e s k) else none).isSome)=T.countP id:=by
  intro T;induction T with
  |nil=>rfl
  |cons b T ih=>
   rw[dB,List.range_succ_eq_map,List.countP_cons,List.countP_map];have e2:(List.range T.length).countP ((fun k=>(if (b::T)[k]?=some true then some (vK e s k) else none).isSome) ∘ Nat.succ)=(List.range T.length).countP (fun k=>(if T[k]?=some true then some (vK e s k) else none).isSome):=by
    refine List.countP_congr fun k _=> ?_
    simp only[Function.comp,jk,Nat.succ_eq_add_one];by_cases q:T[k]?=some true<;>simp[q]
   rw[e2,ih];cases b<;>simp
 exact key s.T
theorem oU {e:Nat} {c:Ca} (h:uR e c):(qj e c.C).length≤65536:=by
 rw[Ev];obtain⟨h1,h2⟩:=FJ (C:=c.C) fun s hs=>by rw[h.len s hs];unfold kL;exact dW _ _
 have:=h.few;omega
structure ApS (B:Nat) (w0:World) (pc pz:Nat) (mn lw hi:Int) (O:List (List Int)) (e:Nat) (L:List Nd) (X:List Nat) (v:Value) (A:SA) (c:Ca) (w:World):Prop where
 cs:CS B w pc pz mn lw hi O e X v A c
 inv:uR e c
 only:OnlyP c
 same:rY L c.L
 bel:Below B w0 w
section
variable {B:Nat} {ev:Nat→Addr} {w0 w w':World} {pc pz e:Nat} {mn lw hi:Int} {O:List (List Int)} {L:List Nd} {X:List Nat} {v:Value} {A:SA} {c:Ca}
end
