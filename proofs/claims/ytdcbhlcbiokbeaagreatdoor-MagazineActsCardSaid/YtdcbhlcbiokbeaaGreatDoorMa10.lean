/- Lemmas and contracts for the claim's last text: ZNew, ZLaw, SFull, SFullW, SDel, SShrink. -/
import Derived.Test.YtdcbhlcbiokbeaaGreatDoorMa01
import Derived.Test.YtdcbhlcbiokbeaaGreatDoorMa03
import Derived.Test.YtdcbhlcbiokbeaaGreatDoorMa05
import Derived.Test.YtdcbhlcbiokbeaaGreatDoorMa06
import Derived.Test.YtdcbhlcbiokbeaaGreatDoorMa07
import Derived.Test.YtdcbhlcbiokbeaaGreatDoorMa08
import Derived.Test.YtdcbhlcbiokbeaaGreatDoorMa09
set_option linter.unusedSimpArgs false
set_option linter.unusedVariables false
set_option maxHeartbeats 16000000
set_option maxRecDepth 100000
namespace Go.Proofs.YtdcbhlcbiokbeaaGreatDoor
section
open Go.RowKit Go.Maps
attribute [local go_sem ↓] aW aX
theorem BX {P:List Int} {N:List (List Int)} {mn lw hi:Int} (h:oM P N mn lw hi=0):1≤P.length∧P.length≤4∧(∀p∈P,1≤p∧p≤256)∧N.length=P.length∧(∀l∈N,l.length=P.length)∧0≤mn∧mn≤lw∧lw≤hi:=by
 unfold oM at h
 split at h
 ·omega
 split at h
 ·rename_i h1 h2
  have hb:tV P N mn lw hi=true:=by cases e:tV P N mn lw hi with|true=>rfl|false=>exact absurd e h1
  unfold tV lM at hb
  unfold sqC at h2
  simp at hb h2
  obtain⟨⟨⟨⟨b1,b2⟩,b3⟩,_⟩,b5⟩:=hb
  obtain⟨⟨s1,s2⟩,_⟩:=h2
  refine⟨om,b2,fun p hp=> ?_,s1,fun l hl=> ?_,om,om,om⟩
  ·have:=b3 p hp
   unfold qU at this
   simp at this;omega
  ·have:=s2 l hl
   unfold kQ at this
   simp at this;omega
 ·omega
theorem xQ {w:World} {b:Nat} {u:Value} (h:w.cell? ⟨b,0,none⟩=some u):rY w (some ⟨b,0,none⟩) [u]:=
 .inr ⟨_,rfl,fun j x hj=>by
  rw[addr_add]
  cases j with
  |zero=>simp at hj;subst hj;exact h
  |succ j=>simp at hj⟩
theorem Keep.cell0 {S:List Nat} {w w':World} (k:Keep S w w') {b:Nat} (h1:b<w.heap.size) (h2:b∉S) {u:Value} (h:w.cell? ⟨b,0,none⟩=some u):w'.cell? ⟨b,0,none⟩=some u:=(k.cell h1 h2).trans h
structure zq (B:Nat) (X:List Nat) (w:World) (pz:Nat) (cs:List Value) (qn:Option Addr) (kn:Nat) (qo:Option Addr) (ko:Nat) (i:Nat) (L:List Nd) (us:List Value) (O:List (List Int)):Prop where
 z:iy w pz (cs++[.slice qn i kn,.slice qo i ko])
 on:w.ownsRow (pz+1) 193 1 (.slice qn i kn) i (ptrs L)
 oo:w.ownsRow (pz+1) 22 1 (.slice qo i ko) i us
 ne: ∀g∈iF (.slice qn i kn),g∉iF (.slice qo i ko)
 b:zX B w L
 far: ∀x∈L,∀a,a=x.pb∨a=x.bf∨a=x.bt→a≠pz∧a∉iF (.slice qn i kn)∧a∉iF (.slice qo i ko)
 rows: ∀(j:Nat) (u:Value) (D:List Int),us[j]?=some u→O[j]?=some D→jT (ys L++pz::(iF (.slice qn i kn)++iF (.slice qo i ko))) w u (ints D)
 lO:O.length=i
 lL:L.length=i
 lu:us.length=i
theorem zq.start {B:Nat} {X:List Nat} {w:World} {pz:Nat} {cs:List Value} (h:iy w pz (cs++[.slice none 0 0,.slice none 0 0])):zq B X w pz cs none 0 none 0 0 [] [] []:=
 ⟨h,aR _ _ _ _,aR _ _ _ _,fun g hg=>by simp[iF,Value.ownBlock] at hg,⟨(fun x hx=>by cases hx),(by simp[ys]),(fun x hx=>by cases hx),(fun y hy=>by simp[ys] at hy)⟩,(fun x hx=>by cases hx),(fun j u D hj=>by simp at hj),rfl,rfl,rfl⟩
theorem zq.step {B:Nat} {X:List Nat} {w0 w3 W1 w4 W2 w6 w7:World} {pz:Nat} {cs:List Value} {qn qo qn' qo':Option Addr} {kn ko kn' ko' i:Nat} {L:List Nd} {us:List Value} {O:List (List Int)} (h:zq B X w0 pz cs qn kn qo ko i L us O)
 (hB:B≤w0.heap.size) (hb3:Below w0.heap.size w0 w3) (x:Nd) (hx:Bud w3 x.pb x.n x.bf x.bt x.F x.T) (hi:Inv x.n x.F x.T) (h1:w0.heap.size≤x.pb) (h2:w0.heap.size≤x.bf) (h3:w0.heap.size≤x.bt)
 {g cap:Nat} {D:List Int} {n:Nat} (hD:iy w3 g (ints D)) (hg:w0.heap.size≤g) (hgp:x.bf≠g∧x.bt≠g) (hn:D.length=n) (hcap:n≤cap) (hmx:cap≤maxLen)
 (K1:Keep [] w3 W1) (hg4:W1.grownBy w4 (Value.slice qn i kn).ownBlock) (ho4:(Value.slice qn' (i+1) kn').ownBlock=(Value.slice qn i kn).ownBlock∨(Value.slice qn' (i+1) kn').ownBlock=some W1.heap.size)
 (on4:w4.ownsRow (pz+1) 193 1 (.slice qn' (i+1) kn') (i+1) (ptrs (L++[x])))
 (K2:Keep [] w4 W2) (hg6:W2.grownBy w6 (Value.slice qo i ko).ownBlock) (ho6:(Value.slice qo' (i+1) ko').ownBlock=(Value.slice qo i ko).ownBlock∨(Value.slice qo' (i+1) ko').ownBlock=some W2.heap.size)
 (oo6:w6.ownsRow (pz+1) 22 1 (.slice qo' (i+1) ko') (i+1) (us++[.slice (some ⟨g,0,none⟩) n cap]))
 (hcs:cs.length=5) (e7:w7=(w6.setCell ⟨pz,5,none⟩ (.slice qn' (i+1) kn')).setCell ⟨pz,6,none⟩ (.slice qo' (i+1) ko')):
 zq B X w7 pz cs qn' kn' qo' ko' (i+1) (L++[x]) (us++[.slice (some ⟨g,0,none⟩) n cap]) (O++[D])∧Keep (pz::(iF (.slice qn i kn)++iF (.slice qo i ko))) w3 w7:=by
 have s3:=hb3.size
 have zl:=h.z.lt
 have sW1:=K1.size
 have s4:=hg4.size
 have sW2:=K2.size
 have s6:=hg6.size
 have onl: ∀a∈iF (.slice qn i kn),pz+1≤a∧a<w0.heap.size:=fun a ha=>iN h.on ha
 have ool: ∀a∈iF (.slice qo i ko),pz+1≤a∧a<w0.heap.size:=fun a ha=>iN h.oo ha
 have on4l: ∀a∈iF (.slice qn' (i+1) kn'),pz+1≤a∧a<w4.heap.size:=fun a ha=>iN on4 ha
 have onew: ∀a∈iF (.slice qn' (i+1) kn'),a∈iF (.slice qn i kn)∨w3.heap.size≤a:=fun a ha=>(rZ ho4 a ha).imp id (fun r=>om)
 have FJ: ∀a∈iF (.slice qo' (i+1) ko'),a∈iF (.slice qo i ko)∨w4.heap.size≤a:=fun a ha=>(rZ ho6 a ha).imp id (fun r=>om)
 have k34:Keep (iF (.slice qn i kn)) w3 w4:=(K1.mono (fun s hs=>by cases hs)).then (jh hg4)
 have k46:Keep (iF (.slice qo i ko)) w4 w6:=(K2.mono (fun s hs=>by cases hs)).then (jh hg6)
 have k67:Keep [pz] w6 w7:=by rw[e7];exact((Keep.refl _ _).setCell (.inl sI) _).setCell (.inl sI) _
 have k47:Keep (pz::iF (.slice qo i ko)) w4 w7:=(k46.mono (fun s hs=>ak _ hs)).then (k67.mono (fun s hs=>by simp at hs;simp[hs]))
 have k37:Keep (pz::(iF (.slice qn i kn)++iF (.slice qo i ko))) w3 w7:=(k34.mono (fun s hs=>by simp[hs])).then (k47.mono (fun s hs=>by simp at hs ⊢;rcases hs with q|q;(·exact .inl q);(·exact .inr (.inr q))))
 have z3:=h.z.go hb3
 have z6:iy w6 pz (cs++[.slice qn i kn,.slice qo i ko]):=(z3.keep k34 (fun q=>by have:=onl _ q;omega)).keep k46 (fun q=>by have:=ool _ q;omega)
 have z7:iy w7 pz (cs++[.slice qn' (i+1) kn',.slice qo' (i+1) ko']):=by
  have:=(z6.store 5 (.slice qn' (i+1) kn') (by simp[hcs])).store 6 (.slice qo' (i+1) ko') (by simp[hcs])
  rw[e7]
  simpa[List.set_append,hcs] using this
 have bu3:=h.b.snoc hb3 x hx hi hB h1 h2 h3
 have farn: ∀a,a=x.pb∨a=x.bf∨a=x.bt→a<w3.heap.size∧w0.heap.size≤a:=fun a ha=>by
  rcases ha with rfl|rfl|rfl
  ·exact⟨hx.ltp,h1⟩
  ·exact⟨hx.ltf,h2⟩
  ·exact⟨hx.ltt,h3⟩
 have far0: ∀y∈L++[x],∀a,a=y.pb∨a=y.bf∨a=y.bt→a<w3.heap.size∧a≠pz∧a∉iF (.slice qn i kn)∧a∉iF (.slice qo i ko):=fun y hy a ha=>by
  rcases aG.1 hy with q|q
  ·obtain⟨f1,f2,f3⟩:=h.far y q a ha
   have b0:=(h.b.bud y q).1
   have:a<w0.heap.size:=by
    rcases ha with rfl|rfl|rfl
    ·exact b0.ltp
    ·exact b0.ltf
    ·exact b0.ltt
   exact⟨om,f1,f2,f3⟩
  ·simp at q;subst q
   obtain⟨f1,f2⟩:=farn a ha
   exact⟨f1,om,fun q=>by have:=onl _ q;omega,fun q=>by have:=ool _ q;omega⟩
 have bu7:zX B w7 (L++[x]):=bu3.keep k37 (fun y hy=>by
  have a1:=far0 y hy _ (.inl rfl);have a2:=far0 y hy _ (.inr (.inl rfl));have a3:=far0 y hy _ (.inr (.inr rfl))
  simp only[aC,aG,not_or]
  exact⟨a1.2,a2.2,a3.2⟩)
 have on7:w7.ownsRow (pz+1) 193 1 (.slice qn' (i+1) kn') (i+1) (ptrs (L++[x])):=iE on4 k47 (fun a ha q=>by
  have l4:=on4l a q
  simp at ha
  rcases ha with rfl|ha
  ·omega
  ·rcases onew a q with r|r
   ·exact h.ne a r ha
   ·have:=ool a ha;omega)
 have oo7:w7.ownsRow (pz+1) 22 1 (.slice qo' (i+1) ko') (i+1) (us++[.slice (some ⟨g,0,none⟩) n cap]):=iE oo6 k67 (fun a ha q=>by
  simp at ha;subst ha
  have:=iN oo6 q;omega)
 have gl:g<w3.heap.size:=hD.lt
 have hSS: ∀s∈pz::(iF (.slice qn i kn)++iF (.slice qo i ko)),s∈ys L++pz::(iF (.slice qn i kn)++iF (.slice qo i ko)):=fun s hs=>aA _ hs
 refine⟨⟨z7,on7,oo7,fun a ha hb=> ?_,bu7,fun y hy a ha=> ?_,fun j u D' hj hD'=> ?_,by simp[h.lO],by simp[h.lL],by simp[h.lu]⟩,k37⟩
 ·rcases onew a ha with r|r
  ·rcases FJ a hb with r2|r2
   ·exact h.ne a r r2
   ·have:=onl a r;omega
  ·rcases FJ a hb with r2|r2
   ·have:=ool a r2;omega
   ·have:=(on4l a ha).2;omega
 ·obtain⟨f1,f2,f3,f4⟩:=far0 y hy a ha
  exact⟨f2,fun q=>by rcases onew a q with r|r;(·exact f3 r);(·omega),fun q=>by rcases FJ a q with r|r;(·exact f4 r);(·omega)⟩
 ·by_cases e:j<us.length
  ·rw[bE e] at hj
   rw[bE (by rw[h.lO,←h.lu];exact e)] at hD'
   have r0:=(h.rows j u D' hj hD').below hb3
   have r1:=(h.rows j u D' hj hD').more (Y:=(ys (L++[x])++pz::(iF (.slice qn' (i+1) kn')++iF (.slice qo' (i+1) ko')))++(ys L++pz::(iF (.slice qn i kn)++iF (.slice qo i ko)))) (fun y hy=>by
    simp only[uP,aG,aC] at hy ⊢
    rcases hy with((hy|hy)|hy|hy|hy)|hy
    ·exact .inl (.inl hy)
    ·simp at hy;rcases hy with rfl|rfl<;>exact .inr om
    ·exact .inl (.inr (.inl hy))
    ·rcases onew y hy with r|r
     ·exact .inl (.inr (.inr (.inl r)))
     ·exact .inr om
    ·rcases FJ y hy with r|r
     ·exact .inl (.inr (.inr (.inr r)))
     ·exact .inr om
    ·exact .inl hy)
   exact((r1.below hb3).keep k37 (fun s hs=>.inl (aA _ (hSS s hs)))).sub (fun y hy=>av _ hy)
  ·have hl:=(aj.1 hj).1
   simp at hl
   have e2:j=us.length:=om
   subst e2
   rw[bK (aI _)] at hj
   rw[h.lu,←h.lO,bK (aI _)] at hD'
   simp at hj hD'
   subst hj hD'
   have r3:jT ((ys (L++[x])++pz::(iF (.slice qn' (i+1) kn')++iF (.slice qo' (i+1) ko')))++(pz::(iF (.slice qn i kn)++iF (.slice qo i ko)))) w3 (.slice (some ⟨g,0,none⟩) n cap) (ints D):=by
    have:=xI (X:=(ys (L++[x])++pz::(iF (.slice qn' (i+1) kn')++iF (.slice qo' (i+1) ko')))++(pz::(iF (.slice qn i kn)++iF (.slice qo i ko)))) (cap:=cap) hD (fun q=>by
     simp only[uP,aG,aC] at q
     rcases q with((q|q)|q|q|q)|q|q|q
     ·have:=(h.b.lim g q).2;omega
     ·simp at q;rcases q with q|q
      ·exact hgp.1 q.symm
      ·exact hgp.2 q.symm
     ·omega
     ·rcases onew g q with r|r
      ·have:=onl g r;omega
      ·omega
     ·rcases FJ g q with r|r
      ·have:=ool g r;omega
      ·omega
     ·omega
     ·have:=onl g q;omega
     ·have:=ool g q;omega) (by rw[iV];omega) hmx
    rwa [iV,hn] at this
   exact(r3.keep k37 (fun s hs=>.inl (aA _ hs))).sub (fun y hy=>av _ hy)
def sZ (X:List Nat) (P:List Int) (N:List (List Int)) (w w1:World) (n:Nat) (cs:List Value) (i:Nat) (qn qo:Option Addr) (kn ko:Nat) (L:List Nd) (us:List Value) (O:List (List Int)) (wr:World):Prop:=
 zq w.heap.size X wr w1.heap.size cs qn kn qo ko i L us O∧L.map (·.n)=P.take i∧(∀x∈L,x.F=oL 0 x.n∧x.T=[])∧(∀(j:Nat) (l D:List Int),N[j]?=some l→O[j]?=some D→mO l n D)∧Below w1.heap.size w1 wr
theorem sZ.next {X:List Nat} {P:List Int} {N:List (List Int)} {w w1 wr w2 w3 W1 w4 W2 w6:World} {n i:Nat} {cs:List Value} {qn qo qn' qo':Option Addr} {kn ko kn' ko':Nat} {L:List Nd} {us:List Value} {O:List (List Int)} (h:sZ X P N w w1 n cs i qn qo kn ko L us O wr)
 (KW:Below w.heap.size w wr) (hb2:Below wr.heap.size wr w2) (hb3:Below w2.heap.size w2 w3) {pb bf bt:Nat} {x:Int} (uV:Bud w2 pb x bf bt (oL 0 x) []) (hx:1≤x∧x≤256) (g1:wr.heap.size≤pb) (g2:wr.heap.size≤bf) (g3:wr.heap.size≤bt)
 {g cp:Nat} {D l:List Int} (hD:iy w3 g (ints D)) (hg:w2.heap.size≤g) (hO:mO l n D) (hcap:n≤cp) (hmx:cp≤maxLen) (hP:P[i]?=some x) (hN:N[i]?=some l)
 (K1:Keep [] w3 W1) (hg4:W1.grownBy w4 (Value.slice qn i kn).ownBlock) (ho4:(Value.slice qn' (i+1) kn').ownBlock=(Value.slice qn i kn).ownBlock∨(Value.slice qn' (i+1) kn').ownBlock=some W1.heap.size)
 (on4:w4.ownsRow (w1.heap.size+1) 193 1 (.slice qn' (i+1) kn') (i+1) (ptrs L++[.pointer (some ⟨pb,0,none⟩)]))
 (K2:Keep [] w4 W2) (hg6:W2.grownBy w6 (Value.slice qo i ko).ownBlock) (ho6:(Value.slice qo' (i+1) ko').ownBlock=(Value.slice qo i ko).ownBlock∨(Value.slice qo' (i+1) ko').ownBlock=some W2.heap.size)
 (oo6:w6.ownsRow (w1.heap.size+1) 22 1 (.slice qo' (i+1) ko') (i+1) (us++[.slice (some ⟨g,0,none⟩) n cp])) (hcs:cs.length=5):
 sZ X P N w w1 n cs (i+1) qn' qo' kn' ko' (L++[⟨pb,bf,bt,x,oL 0 x,[]⟩]) (us++[.slice (some ⟨g,0,none⟩) n cp]) (O++[D]) ((w6.setCell ⟨w1.heap.size,5,none⟩ (.slice qn' (i+1) kn')).setCell ⟨w1.heap.size,6,none⟩ (.slice qo' (i+1) ko')):=by
 obtain⟨st,hLn,hLF,hOO,hbel⟩:=h
 have z2:=hb2.size
 have hlf:=uV.ltf;have hlt:=uV.ltt
 have zl:=st.z.lt
 obtain⟨s1,k37⟩:=st.step KW.size (hb2.trans (hb3.mono z2)) ⟨pb,bf,bt,x,oL 0 x,[]⟩ (uV.below hb3) (Inv.start hx.1 hx.2) g1 g2 g3 hD om (by simp;omega) hO.len hcap hmx K1 hg4 ho4 (by rw[F8];exact on4) K2 hg6 ho6 oo6 hcs rfl
 refine⟨s1,?_,fun y hy=> ?_,fun j l' D' hj hD'=> ?_,?_⟩
 ·rw[List.map_append,hLn,bH,hP];rfl
 ·rcases aG.1 hy with q|q
  ·exact hLF y q
  ·simp at q;subst q;exact⟨rfl,rfl⟩
 ·by_cases e:j<O.length
  ·rw[bE e] at hD'
   exact hOO j l' D' hj hD'
  ·have hl:=(aj.1 hD').1
   simp at hl
   have e2:j=i:=by have:=st.lO;omega
   subst e2
   rw[hN] at hj;obtain rfl:=aH hj
   rw[bK om] at hD'
   have:j-O.length=0:=om
   rw[this] at hD';simp at hD';subst hD'
   exact hO
 ·have z3:=hb3.size
  have zr:=hbel.size
  refine hbel.trans (((hb2.mono zr).trans (hb3.mono om)).trans (k37.below om fun s hs=> ?_))
  simp at hs
  rcases hs with rfl|hs|hs
  ·exact aI _
  ·have:=iN st.on hs;omega
  ·have:=iN st.oo hs;omega
theorem sZ.fin {X:List Nat} {P:List Int} {N:List (List Int)} {w w1 wr:World} {n:Nat} {u0 u1:Value} {mn lw hi:Int} {qn qo:Option Addr} {kn ko:Nat} {L:List Nd} {us:List Value} {O:List (List Int)} (h:sZ X P N w w1 n [u0,u1,.int .i64 mn,.int .i64 lw,.int .i64 hi] n qn qo kn ko L us O wr)
 (hm:0≤mn∧mn≤lw∧lw≤hi∧hi≤9223372036854775807) (hN:N.length=n):
 jK w.heap.size ((wr.setCell ⟨w1.heap.size,0,none⟩ (.slice none 0 0)).setCell ⟨w1.heap.size,1,none⟩ (.slice none 0 0)) w1.heap.size mn lw hi O L:=by
 obtain⟨st,hLn,hLF,hOO,hbel⟩:=h
 have lL:=st.lL
 have k:Keep [w1.heap.size] wr ((wr.setCell ⟨w1.heap.size,0,none⟩ (.slice none 0 0)).setCell ⟨w1.heap.size,1,none⟩ (.slice none 0 0)):=((Keep.refl _ _).setCell (p:=⟨w1.heap.size,0,none⟩) (.inl sI) _).setCell (p:=⟨w1.heap.size,1,none⟩) (.inl sI) _
 have hy: ∀y∈ys L,y≠w1.heap.size∧y∉iF (.slice qn n kn)∧y∉iF (.slice qo n ko):=fun y hy=>by
  obtain⟨x,hx,q⟩:=oJ.1 hy
  exact st.far x hx y (.inr q)
 refine⟨⟨qn,kn,qo,ko,?_,?_,?_⟩,?_,?_,?_,hm⟩
 ·rw[lL]
  exact(st.z.store 0 (.slice none 0 0) sI).store 1 (.slice none 0 0) sI
 ·rw[lL]
  have lp:(ptrs L).length=n:=by rw[oC];exact lL
  have o:=st.on
  rw[←lp] at o hy ⊢
  have r:=lN (X:=w1.heap.size::ys L) o (fun x hx g hg e=>by
   rcases aC.1 hx with rfl|hx
   ·have:=o.lt g hg;omega
   ·exact(hy x hx).2.1 (kI.2 (e▸hg)))
  exact(r.keep k (fun s hs=>by simp at hs;subst hs;exact .inl sI)).sub (fun s hs=>ak _ hs)
 ·rw[lL]
  refine⟨us,by rw[st.lu,st.lO],?_,fun j u D hj hD=> ?_⟩
  ·have o:=st.oo
   have lu:=st.lu
   rw[←lu] at o hy ⊢
   have r:=lN (X:=w1.heap.size::ys L) o (fun x hx g hg e=>by
    rcases aC.1 hx with rfl|hx
    ·have:=o.lt g hg;omega
    ·exact(hy x hx).2.2 (kI.2 (e▸hg)))
   exact(r.keep k (fun s hs=>by simp at hs;subst hs;exact .inl sI)).sub (fun s hs=>ak _ hs)
  ·have r:=st.rows j u D hj hD
   exact(r.keep k (fun s hs=>by simp at hs;subst hs;exact .inl sI)).sub (fun s hs=>av _ hs)
 ·exact st.b.keep k (fun x hx=>by
   have a1:=(st.far x hx _ (.inl rfl)).1;have a2:=(st.far x hx _ (.inr (.inl rfl))).1;have a3:=(st.far x hx _ (.inr (.inr rfl))).1
   simp;exact⟨a1,a2,a3⟩)
 ·exact fun q=>(hy _ q).1 rfl
 ·refine⟨by rw[st.lO,lL],fun D hD=> ?_⟩
  obtain⟨j,hj⟩:=bR hD
  have hjl:=(aj.1 hj).1
  have hjn:j<N.length:=by rw[hN,←st.lO];exact hjl
  have o:=hOO j N[j] D (au hjn) hj
  rw[lL]
  exact⟨o.len,o.mem⟩
def NewPost (P:List Int) (N:List (List Int)) (mn lw hi:Int) (w:World) (e:Ending) (w':World):Prop:=
 ∃(pz:Nat) (O:List (List Int)) (L:List Nd),e= .returned (.tuple #[.pointer (some ⟨pz,0,none⟩),.nilIface])∧jK w.heap.size w' pz mn lw hi O L∧w.heap.size≤pz∧L.map (·.n)=P∧(∀x∈L,x.F=oL 0 x.n∧x.T=[])∧(∀(i:Nat) (l D:List Int),N[i]?=some l→O[i]?=some D→mO l P.length D)∧Below w.heap.size w w'
theorem wZ {B:Nat} {ev:Nat→Addr} (X:List Nat) (vP vN:Value) (P:List Int) (N:List (List Int)) (mn lw hi:Int) (w:World) (hE:qh B ev w) (h:Cfg X w vP vN P N) (hc:oM P N mn lw hi=0) (hhi:hi≤9223372036854775807):
 Calls Tryz.prog 18 #[.agg #[vP,vN,.int .i64 mn,.int .i64 lw,.int .i64 hi]] w (NewPost P N mn lw hi w):=by
 have hB:=hE.size
 obtain⟨c1,c2,c3,c4,c5,c6,c7,c8⟩:=BX hc
 obtain⟨p,cap,rfl,hcp,hmx,hcl⟩:=h.p.int
 obtain⟨q,k,rfl,hck,hkm,_⟩:=h.n.form
 have L0:iy (w.alloc (.cells [.slice p P.length cap,.slice q N.length k,.int .i64 mn,.int .i64 lw,.int .i64 hi].toArray 36)) w.heap.size [.slice p P.length cap,.slice q N.length k,.int .i64 mn,.int .i64 lw,.int .i64 hi]:=iy.new w _ _
 have hb0:Below w.heap.size w (w.alloc (.cells [.slice p P.length cap,.slice q N.length k,.int .i64 mn,.int .i64 lw,.int .i64 hi].toArray 36)):=iB
 have CH:=yL X _ _ P N mn lw hi _ (hE.below (hb0.mono hB)) (h.below hb0)
 rw[hc,show jB ev 0=Value.nilIface from rfl] at CH
 have CH':=ah CH
 have HL0:=ah L0;have HB0:=ah hb0
 have HH:=ah h;have HC:=ah hc;have CLl:=ah hcl
 have C3:=ah c3;have C4:=ah c4;have C5:=ah c5
 obtain⟨n,hn⟩: ∃n,n=P.length:=⟨_,rfl⟩
 rw[c4] at HL0 HB0 HH CH' hck ⊢
 rw[←hn] at c1 c2 HL0 HB0 HH CH' hck hcp ⊢
 have HN:=ah hn
 have C4':Hid (N.length=n):=by show _=_;rw[C4.out];exact HN.out.symm
 unfold maxLen at hmx hkm
 clear CH h hc hn hb0 L0 c3 c4 c5 hcl
 go_enter Tryz.func18,Tryz.ntmps18
 go_wp2_with fail
 refine CH'.out.mono ?_
 rintro e w1 ⟨rfl,hb1⟩
 have K1:Below w.heap.size w w1:=HB0.out.trans (hb1.mono sI)
 have M0:=ah (HL0.out.go hb1)
 have z1:=K1.size
 have m0:=M0.out.c 0 _ rfl;have m1:=M0.out.c 1 _ rfl;have m2:=M0.out.c 2 _ rfl;have m3:=M0.out.c 3 _ rfl;have m4:=M0.out.c 4 _ rfl;have ml:=M0.out.lt
 clear CH' HL0 HB0 hb1
 have ST0:Hid (zq w.heap.size X (w1.alloc (.cells #[.slice p n cap,.slice q n k,.int .i64 mn,.int .i64 lw,.int .i64 hi,.slice none 0 0,.slice none 0 0] 192)) w1.heap.size [.slice p n cap,.slice q n k,.int .i64 mn,.int .i64 lw,.int .i64 hi] none 0 none 0 0 [] [] []):=zq.start (iy.new w1 [.slice p n cap,.slice q n k,.int .i64 mn,.int .i64 lw,.int .i64 hi,.slice none 0 0,.slice none 0 0] _)
 have B0:Below w1.heap.size w1 (w1.alloc (.cells #[.slice p n cap,.slice q n k,.int .i64 mn,.int .i64 lw,.int .i64 hi,.slice none 0 0,.slice none 0 0] 192)):=iB
 go_wp2_with fail
 go_loopw [22] (fun iv wr=>∃(i:Nat) (qn qo:Option Addr) (kn ko:Nat) (L:List Nd) (us:List Value) (O:List (List Int)),i≤n∧iv= .int .i64 i∧sZ X P N w w1 n [.slice p n cap,.slice q n k,.int .i64 mn,.int .i64 lw,.int .i64 hi] i qn qo kn ko L us O wr) (fun iv _=>n-(intOf iv).toNat)
 case atStart=>exact⟨0,none,none,0,0,[],[],[],aO _,by go_num,ST0.out,(show _=_ by simp),(fun x hx=>by cases hx),(fun j l D _ hD=>by simp at hD),B0⟩
 case round=>
  obtain⟨i,qn,qo,kn,ko,L,us,O,hiN,rfl,hR⟩:=hrel
  have HR:=ah hR
  have ST:=ah hR.1
  have hbel:=hR.2.2.2.2
  clear hR
  clear ST0 B0
  have zr:=hbel.size
  have zl:w1.heap.size<wr.heap.size:=ST.out.z.lt
  have KW:Below w.heap.size w wr:=K1.trans (hbel.mono z1)
  by_cases hin:i<n
  ·obtain⟨x,hx⟩: ∃x,P[i]?=some x:=⟨P[i]'(by rw[←HN.out];exact hin),au _⟩
   obtain⟨l,hl⟩: ∃l,N[i]?=some l:=⟨N[i]'(by rw[C4.out,←HN.out];exact hin),au _⟩
   obtain⟨gp,op,rfl,_,hgp,hcx⟩:=CLl.out i x hx
   have r1:=(KW.cell (p:=⟨gp,op+i,none⟩) hgp).trans hcx
   have gr:gp<wr.heap.size:=om
   have hxr:=C3.out x (aB hx)
   have NB:=ah (new_ok x wr hxr.1 hxr.2)
   have HX1:=ah hx;have HL1:=ah hl
   clear hcx hx hl
   go_wp2_with fail
   refine NB.out.mono ?_
   rintro e w2 ⟨pb,bf,bt,rfl,uV,⟨g1,g2,g3⟩,hb2⟩
   have HBU:=ah uV
   have z2:=hb2.size
   have K2:Below w.heap.size w w2:=KW.trans (hb2.mono om)
   have M2:=((M0.out.go hbel).go hb2)
   have a0:=M2.c 0 _ rfl;have a1:=M2.c 1 _ rfl;have a2:=M2.c 2 _ rfl;have a3:=M2.c 3 _ rfl;have a4:=M2.c 4 _ rfl;have al:=M2.lt
   have OK':=order_ok X _ _ P N mn lw hi i l w2 (hE.below (K2.mono hB)) (HH.out.below K2) HC.out HL1.out (C5.out l (aB HL1.out)) C4.out (by rw[←HN.out];exact c2)
   rw[←HN.out] at OK'
   have OK2:=ah OK'
   clear NB uV M2 OK'
   go_wp2_with fail
   refine OK2.out.mono ?_
   rintro e w3 ⟨g,cp,D,rfl,hO,hD,hg,hgc,hgm,hb3⟩
   have KR3:Below wr.heap.size wr w3:=hb2.trans (hb3.mono z2)
   have HOD:=ah hO;have HDD:=ah hD
   have Z3:=ah (ST.out.z.go KR3)
   have y5:=Z3.out.c 5 _ rfl;have y6:=Z3.out.c 6 _ rfl;have yl:=Z3.out.lt
   have z3:=KR3.size
   clear hO hD OK2 a0 a1 a2 a3 a4 al
   have lp:(ptrs L).length=i:=by rw[oC];exact ST.out.lL
   have lu:=ST.out.lu
   have ON:Hid (∀W,Keep [] w3 W→W.ownsRow (w1.heap.size+1) 193 1 (.slice qn i kn) (ptrs L).length (ptrs L)):=fun W k=>by rw[lp];exact iE ST.out.on ((Keep.of (S:=[]) KR3).then k) (fun x hx=>by cases hx)
   have Z4:Hid (∀W1 w4 W2,Keep [] w3 W1→W1.grownBy w4 (Value.slice qn i kn).ownBlock→Keep [] w4 W2→iy W2 w1.heap.size [.slice (some ⟨gp,op,none⟩) n cap,.slice q n k,.int .i64 mn,.int .i64 lw,.int .i64 hi,.slice qn i kn,.slice qo i ko]):=fun W1 w4 W2 k1 hg k2=>((Z3.out.keep k1 sI).keep (jh hg) (fun hq=>by have:=iN ST.out.on hq;omega)).keep k2 sI
   have OO:Hid (∀W1 w4 W2,Keep [] w3 W1→W1.grownBy w4 (Value.slice qn i kn).ownBlock→Keep [] w4 W2→W2.ownsRow (w1.heap.size+1) 22 1 (.slice qo i ko) us.length us):=fun W1 w4 W2 k1 hg k2=>by
    rw[lu]
    exact iE (iE (iE ST.out.oo ((Keep.of (S:=[]) KR3).then k1) (fun x hx=>by cases hx)) (jh hg) (fun x hx q=>ST.out.ne x hx q)) k2 (fun x hx=>by cases hx)
   have Z6:Hid (∀W1 w4 W2 w6,Keep [] w3 W1→W1.grownBy w4 (Value.slice qn i kn).ownBlock→Keep [] w4 W2→W2.grownBy w6 (Value.slice qo i ko).ownBlock→iy w6 w1.heap.size [.slice (some ⟨gp,op,none⟩) n cap,.slice q n k,.int .i64 mn,.int .i64 lw,.int .i64 hi,.slice qn i kn,.slice qo i ko]):=fun W1 w4 W2 w6 k1 hg k2 hg6=>(Z4.out W1 w4 W2 k1 hg k2).keep (jh hg6) (fun hq=>by have:=iN ST.out.oo hq;omega)
   have NOX:Hid (∀b,w3.heap.size≤b→b∉iF (.slice qn i kn)):=fun b hb q=>by have:=(iN ST.out.on q).2;omega
   have SZ:Hid (∀W,Keep [] w3 W→w1.heap.size+1≤W.heap.size):=fun W k=>by have:=k.size;omega
   have E4:Hid ((ptrs L++[Value.pointer (some ⟨pb,0,none⟩)]).length=i+1):=by show _=_;simp[lp]
   have E6:Hid ((us++[Value.slice (some ⟨g,0,none⟩) n cp]).length=i+1):=by show _=_;simp[lu]
   have HLP:=ah lp;have HLU:=ah lu
   clear lp lu
   go_wp2_with fail
   go_region_law (first
    |(refine mJ (base:=w1.heap.size+1) (v:=.slice qn i kn) (us:=ptrs L) (ms:=[.pointer (some ⟨pb,0,none⟩)]) elNode rf (.tmp 49) (.tmp 51) rf rf 1 rf rfl (ON.out _ (by repeat(first|exact Keep.refl _ _|refine Keep.alloc ?_ _|refine Keep.drew ?_))) (by refine xQ ?_;(try simp only[eO]);first|(rw[aK _ _ _ _ (by first|omega|(simp;omega)|(simp;done))];rfl)|(rw[dJ _ _ _ (by first|omega|(simp;omega)|(simp;done))];rw[aK _ _ _ _ (by first|omega|(simp;omega)|(simp;done))];rfl)) (by intro x hx;simp at hx;subst hx;rfl) (by rw[HLP.out];simp;omega) (SZ.out _ (by repeat(first|exact Keep.refl _ _|refine Keep.alloc ?_ _|refine Keep.drew ?_))) ?_;intro qn' kn' w4 iK hg4 ho4;rw[E4.out] at iK ho4 ⊢;have X4:=Z4.out _ w4 w4 (by repeat(first|exact Keep.refl _ _|refine Keep.alloc ?_ _|refine Keep.drew ?_)) hg4 (Keep.refl _ _);have v6:=X4.c 6 _ rfl;have vl:=X4.lt;clear X4)
    |(refine mJ (base:=w1.heap.size+1) (v:=.slice qo i ko) (us:=us) (ms:=[.slice (some ⟨g,0,none⟩) n cp]) elRow rf (.tmp 56) (.tmp 58) rf rf 1 rf rfl (OO.out _ w4 _ (by repeat(first|exact Keep.refl _ _|refine Keep.alloc ?_ _|refine Keep.drew ?_)) hg4 (by repeat(first|exact Keep.refl _ _|refine Keep.alloc ?_ _|refine Keep.drew ?_))) (by refine xQ ?_;(try simp only[eO]);first|(rw[aK _ _ _ _ (by first|omega|(simp;omega)|(simp;done))];rfl)|(refine(jh hg4).cell0 (by first|omega|(simp;omega)|(simp;done)) (NOX.out _ (by first|omega|(simp;omega)|(simp;done))) ?_;(try simp only[eO]);first|(rw[aK _ _ _ _ (by first|omega|(simp;omega)|(simp;done))];rfl)|(rw[dJ _ _ _ (by first|omega|(simp;omega)|(simp;done))];rw[aK _ _ _ _ (by first|omega|(simp;omega)|(simp;done))];rfl))) (by intro x hx;simp at hx;subst hx;rfl) (by rw[HLU.out];simp;omega) (by have:=SZ.out _ (show Keep [] w3 _ from(by repeat(first|exact Keep.refl _ _|refine Keep.alloc ?_ _|refine Keep.drew ?_)));have:=hg4.size;have:=(show Keep [] w4 _ from(by repeat(first|exact Keep.refl _ _|refine Keep.alloc ?_ _|refine Keep.drew ?_))).size;simp at*;omega) ?_;intro qo' ko' w6 hown6 hg6 ho6;rw[E6.out] at hown6 ho6 ⊢;have X6:=Z6.out _ w4 _ w6 (by repeat(first|exact Keep.refl _ _|refine Keep.alloc ?_ _|refine Keep.drew ?_)) hg4 (by repeat(first|exact Keep.refl _ _|refine Keep.alloc ?_ _|refine Keep.drew ?_)) hg6;have s5:=X6.c 5 _ rfl;have s6:=X6.c 6 _ rfl;have f5:=X6.f 5 sI;have f6:=X6.f 6 sI;have sl:=X6.lt;clear X6))
   all_goals
    have NX:=sZ.next HR.out KW hb2 hb3 HBU.out hxr g1 g2 g3 HDD.out hg HOD.out hgc hgm HX1.out HL1.out (by repeat(first|exact Keep.refl _ _|refine Keep.alloc ?_ _|refine Keep.drew ?_|refine Keep.drewN ?_ _|refine Keep.setCell ?_ (.inr (by first|omega|(simp;omega)|(simp;done))) _)) hg4 ho4 iK (by repeat(first|exact Keep.refl _ _|refine Keep.alloc ?_ _|refine Keep.drew ?_|refine Keep.drewN ?_ _|refine Keep.setCell ?_ (.inr (by first|omega|(simp;omega)|(simp;done))) _)) hg6 ho6 hown6 rfl
    clear v6 vl s5 s6 f5 f6 sl iK hown6 ho4 ho6 hg4 hg6
    have HNX:=ah NX
    clear NX
    go_wp2
    go_roundw
    case rel=>exact⟨i+1,qn',qo',kn',ko',_,_,_,om,by go_num,HNX.out⟩
    case measure=>simp[intOf];omega
  ·have ei:i=n:=by omega
   subst ei
   have Z:=ST.out.z
   have a0:=Z.c 0 _ rfl;have a1:=Z.c 1 _ rfl;have f0:=Z.f 0 sI;have f1:=Z.f 1 sI;have al:=Z.lt
   have FI:=ah (sZ.fin HR.out ⟨c6,c7,c8,hhi⟩ C4'.out)
   clear Z
   have hmap:L.map (·.n)=P:=by rw[HR.out.2.1,HN.out,bF]
   have KW2:Below w.heap.size w wr:=K1.trans (hbel.mono z1)
   have HM:=ah hmap
   clear hmap
   go_wp2
   go_ret2
   exact⟨w1.heap.size,O,L,rfl,FI.out,om,HM.out,HR.out.2.2.1,fun j l D hl hD=>by rw[←HN.out];exact HR.out.2.2.2.1 j l D hl hD,iB⟩
end
section
open Go.RowKit Go.Maps
theorem retInt {k:IntKind} {a b:Int} (h:a=b):Ending.returned (.int k a)= .returned (.int k b):=by rw[h]
def zu (P:List Int) (N:List (List Int)):Bool:=decide (20<P.length)||decide (20<N.length)||N.any fun l=>decide (20<l.length)
theorem wideC_no {P:List Int} {N:List (List Int)} (h:zu P N=false):P.length≤20∧N.length≤20∧∀(j:Nat) (xs:List Int),N[j]?=some xs→xs.length≤20:=by
 unfold zu at h
 simp at h
 exact⟨om,om,fun j xs hj=>h.2 xs (aB hj)⟩
def sG (P:List Int) (N:List (List Int)):Int:=if zu P N=true then 1 else 0
theorem wide_any (vP vN:Value) (P:List Int) (N:List (List Int)) (mn lw hi:Int) (w:World) (h:Cfg [] w vP vN P N):
 Calls Tryz.prog 16 #[.agg #[vP,vN,.int .i64 mn,.int .i64 lw,.int .i64 hi]] w fun e w'=>e= .returned (.int .i64 (sG P N))∧Below w.heap.size w w':=by
 obtain⟨p,cap,rfl,hcp,hmx,_⟩:=h.p.int
 obtain⟨q,k,rfl,hck,hkm,hcn⟩:=h.n.form
 have HCN:=ah hcn
 unfold maxLen at hmx hkm
 clear hcn h
 by_cases h1:20<P.length
 ·have e:sG P N=1:=by unfold sG zu;simp[h1]
  rw[e]
  clear e
  go_enter Tryz.func16,Tryz.ntmps16
  go_wp2
  go_ret
  exact⟨rfl,iB⟩
 by_cases h2:20<N.length
 ·have e:sG P N=1:=by unfold sG zu;simp[h2]
  rw[e]
  clear e
  go_enter Tryz.func16,Tryz.ntmps16
  go_wp2
  go_ret
  exact⟨rfl,iB⟩
 obtain⟨n,hn⟩: ∃n,n=N.length:=⟨_,rfl⟩
 have HN:=ah hn
 have L0:=ah (iy.mk_ w [.slice p P.length cap,.slice q N.length k,.int .i64 mn,.int .i64 lw,.int .i64 hi] 27 rfl)
 rw[←hn] at h2 hck L0 ⊢
 obtain⟨m,hm⟩: ∃m,m=P.length:=⟨_,rfl⟩
 have HM:=ah hm
 rw[←hm] at h1 hcp L0 ⊢
 clear hn hm
 go_enter Tryz.func16,Tryz.ntmps16
 go_wp2_with fail
 go_loopw [3] (fun iv wr=>∃i:Nat,i≤n∧iv= .int .i64 i∧Hid (∀l∈N.take i,l.length≤20)∧Below (w.alloc (.cells [.slice p m cap,.slice q n k,.int .i64 mn,.int .i64 lw,.int .i64 hi].toArray 27)).heap.size (w.alloc (.cells [.slice p m cap,.slice q n k,.int .i64 mn,.int .i64 lw,.int .i64 hi].toArray 27)) wr) (fun iv _=>n-(intOf iv).toNat)
 case atStart=>exact⟨0,aO _,by go_num,(show∀l∈N.take 0,l.length≤20 from sI),aJ _ _⟩
 case round=>
  obtain⟨i,hi',rfl,SM,hbel⟩:=hrel
  have M:=L0.out.go hbel
  have m1:=M.c 1 _ rfl;have ml:=M.lt
  have KR:Below w.heap.size w wr:=dW iB (hbel.mono sI)
  have zr:=hbel.size
  simp at zr
  by_cases hlt:i<n
  ·obtain⟨l,hl⟩: ∃l,N[i]?=some l:=⟨N[i]'(by rw[←HN.out];exact hlt),au _⟩
   obtain⟨g,off,u,rfl,_,hg,hc,hu⟩:=HCN.out i l hl
   obtain⟨pl,kl,rfl,hkl,hml,_⟩:=hu.int
   have r0:=(KR.cell (p:=⟨g,off+i,none⟩) hg).trans hc
   have gr:g<wr.heap.size:=om
   unfold maxLen at hml
   have HL:=ah hl
   clear hl hu hc M
   by_cases hw:20<l.length
   ·have e:sG P N=1:=by
     unfold sG zu
     rw[if_pos]
     simp
     exact .inr ⟨l,aB HL.out,hw⟩
    have E:=ah e
    clear e
    go_wp2
    go_ret
    exact⟨retInt E.out.symm,KR⟩
   ·have SM2:=ah (nY SM.out HL.out (show l.length≤20 by omega))
    go_wp2
    go_roundw
    case rel=>exact⟨i+1,om,by go_num,SM2,hbel⟩
    case measure=>simp[intOf];omega
  ·have e:sG P N=0:=by
    have hin:i=N.length:=by have:=HN.out;omega
    unfold sG zu
    rw[if_neg]
    simp
    refine⟨⟨by have:=HM.out;omega,by have:=HN.out;omega⟩,fun l hl=> ?_⟩
    exact SM.out l (by rw[hin,bF];exact hl)
   have E:=ah e
   clear e M
   go_wp2
   go_ret
   exact⟨retInt E.out.symm,KR⟩
theorem one_ok {X:List Nat} (n:Int) (w:World) (hX: ∀x∈X,x<w.heap.size):
 Calls Tryz.prog 108 #[.int .i64 n] w fun e w'=>∃vP vN,e= .returned (.agg #[vP,vN,.int .i64 0,.int .i64 0,.int .i64 0])∧Cfg X w' vP vN [n] [[0]]∧Below w.heap.size w w':=by
 obtain⟨b1,e1⟩: ∃b,b=w.heap.size+1:=⟨_,rfl⟩
 have F0:=(((iy.mk_ w [.slice (some ⟨w.heap.size+1,0,none⟩) 1 1,.slice (some ⟨w.heap.size+1+1+1,0,none⟩) 1 1,.int .i64 0,.int .i64 0,.int .i64 0] 36 rfl).past (.cells #[.int .i64 n] 3)).past (.cells #[.int .i64 0] 3)).past (.cells #[.slice (some ⟨w.heap.size+1+1,0,none⟩) 1 1] 22)
 have F1:=((iy.mk_ (w.alloc (.cells [.slice (some ⟨w.heap.size+1,0,none⟩) 1 1,.slice (some ⟨w.heap.size+1+1+1,0,none⟩) 1 1,.int .i64 0,.int .i64 0,.int .i64 0].toArray 36)) [.int .i64 n] 3 (b:=w.heap.size+1) sI).past (.cells #[.int .i64 0] 3)).past (.cells #[.slice (some ⟨w.heap.size+1+1,0,none⟩) 1 1] 22)
 have F2:=(iy.mk_ ((w.alloc (.cells [.slice (some ⟨w.heap.size+1,0,none⟩) 1 1,.slice (some ⟨w.heap.size+1+1+1,0,none⟩) 1 1,.int .i64 0,.int .i64 0,.int .i64 0].toArray 36)).alloc (.cells [.int .i64 n].toArray 3)) [.int .i64 0] 3 (b:=w.heap.size+1+1) sI).past (.cells #[.slice (some ⟨w.heap.size+1+1,0,none⟩) 1 1] 22)
 have F3:=iy.mk_ (((w.alloc (.cells [.slice (some ⟨w.heap.size+1,0,none⟩) 1 1,.slice (some ⟨w.heap.size+1+1+1,0,none⟩) 1 1,.int .i64 0,.int .i64 0,.int .i64 0].toArray 36)).alloc (.cells [.int .i64 n].toArray 3)).alloc (.cells [.int .i64 0].toArray 3)) [.slice (some ⟨w.heap.size+1+1,0,none⟩) 1 1] 22 (b:=w.heap.size+1+1+1) sI
 have H0:=ah F0;have H1:=ah F1;have H2:=ah F2;have H3:=ah F3
 clear F0 F1 F2 F3
 go_enter Tryz.func108,Tryz.ntmps108
 go_wp2
 have c0:=H0.out.c 0 _ rfl;have c1:=H0.out.c 1 _ rfl;have c2:=H0.out.c 2 _ rfl;have c3:=H0.out.c 3 _ rfl;have c4:=H0.out.c 4 _ rfl
 refine bodyPost_ret (v:=.agg #[.slice (some ⟨w.heap.size+1,0,none⟩) 1 1,.slice (some ⟨w.heap.size+1+1+1,0,none⟩) 1 1,.int .i64 0,.int .i64 0,.int .i64 0]) (by simp[results,Tryz.results108,go_sem]) rfl ⟨_,_,rfl,⟨?_,?_⟩,iB⟩
 ·exact xI (us:=ints [n]) (cap:=1) H1.out (fun q=>by have:=hX _ q;omega) (by simp[ints]) (by unfold maxLen;omega)
 ·refine⟨[.slice (some ⟨w.heap.size+1+1,0,none⟩) 1 1],rfl,xI (cap:=1) H3.out (fun q=>by have:=hX _ q;omega) sI (by unfold maxLen;omega),fun j u xs hu hxs=> ?_⟩
  cases j with
  |zero=>
   simp at hu hxs
   subst hu hxs
   exact xI (us:=ints [0]) (cap:=1) H2.out (fun q=>by have:=hX _ q;omega) (by simp[ints]) (by unfold maxLen;omega)
  |succ j=>simp at hu
theorem cfgE_one {n:Int} (h1:1≤n) (h2:n≤256):oM [n] [[0]] 0 0 0=0:=by
 have e1:qU n=false:=by unfold qU;simp;omega
 unfold oM tV lM sqC Ae tF yK BL p9
 simp[e1,kZ,kQ]
theorem ordOne {D:List Int} (h:D.length=1∧∀x:Int,x∈D↔0≤x∧x<1):D=[0]:=by
 match D,h with
 |[x],h=>
  have:=(h.2 x).1 sI
  have e:x=0:=om
  rw[e]
theorem ordZ_one {O:List (List Int)} (h:vV O 1):O=[[0]]:=by
 match O,h with
 |[D],h=>
  have:=h.2 D sI
  have e:D=[0]:=ordOne (by simpa using this)
  rw[e]
def OneZ (n:Int) (w:World) (e:Ending) (w':World):Prop:=
 ∃(pz:Nat) (x:Nd),e= .returned (.tuple #[.pointer (some ⟨pz,0,none⟩),.nilIface])∧jK w.heap.size w' pz 0 0 0 [[0]] [x]∧w.heap.size≤pz∧x.n=n∧x.F=oL 0 n∧x.T=[]∧Below w.heap.size w w'
theorem oneZone {B:Nat} {ev:Nat→Addr} (vP vN:Value) (n:Int) (w:World) (hE:qh B ev w) (h:Cfg [] w vP vN [n] [[0]]) (n1:1≤n) (n2:n≤256):
 Calls Tryz.prog 18 #[.agg #[vP,vN,.int .i64 0,.int .i64 0,.int .i64 0]] w (OneZ n w):=
 (wZ [] vP vN [n] [[0]] 0 0 0 w hE h (cfgE_one n1 n2) om).mono fun e w' hp=>by
   obtain⟨pz,O,L,h1,h2,h3,h4,h5,h6,h7⟩:=hp
   match L,h4 with
   |[x],h4=>
    have hx:x.n=n:=by simpa using h4
    obtain⟨q1,q2⟩:=h5 x sI
    have hO:=ordZ_one h2.ord
    subst hO
    exact⟨pz,x,h1,h2,h3,hx,by rw[←hx];exact q1,q2,h7⟩
theorem qh.up {B B':Nat} {ev:Nat→Addr} {w:World} (h:qh B ev w) (hb:B≤B') (hs:B'≤w.heap.size):qh B' ev w:=⟨hs,aF h.l2 hb,aF h.l3 hb,aF h.l4 hb,h.c2,h.c3,h.c4⟩
theorem Bu.up {B B':Nat} {ev:Nat→Addr} {w:World} (h:Bu B ev w) (hb:B≤B') (hs:B'≤w.heap.size):Bu B' ev w:=⟨h.c.up hb hs,aF h.l5 hb,h.c5⟩
theorem qM.up {B B':Nat} {ev:Nat→Addr} {w:World} (h:qM B ev w) (hb:B≤B') (hs:B'≤w.heap.size):qM B' ev w:=⟨h.d.up hb hs,aF h.l7 hb,h.c7⟩
theorem sS.z {B:Nat} {ev:Nat→Addr} {w:World} (h:sS B ev w):qM B ev w:=⟨h.d,h.glob 7 (by decide) (by decide),h.cell 7 (by decide) (by decide)⟩
end
section
open Go.RowKit
end
section
theorem BZ {n:Int} {F T:List (Int×Int)} (h:Inv n F T) (hs:jA F=0):F=[]:=by
 cases F with
 |nil=>rfl
 |cons p r=>
  have h1:=kP r
  have h2:jA (p::r)=sz p.2+jA r:=rfl
  have h3:0<sz p.2:=kr _
  omega
theorem FK {n:Int} {F T:List (Int×Int)} (h:Inv n F T) (hb:jE 0 F=none):jA F=0:=by
 cases F with
 |nil=>rfl
 |cons p r=>
  have:=wF hb p sI
  have:=(h.rngF (p:=p) sI).2.2.1
  omega
theorem take_one {mn:Int} {O:List (List Int)} {x:Nd} (hO:vV O 1) (hI:Inv x.n x.F x.T):
 (jA x.F=0→j4 mn O [x] 0 0 true=([x],5,(0,0,0)))∧
 (0<jA x.F→∃b,jE 0 x.F=some b∧sQ x.T b.1=none∧j4 mn O [x] 0 0 true=([qF 0 b x],0,(0,b.1,0))):=by
 obtain⟨D,hD,hl,hm,hc⟩:=qG (mn:=mn) (u:=true) (k:=0) (L:=[x]) (v:=0) (by simpa using hO) sI
 have h0:(0:Int)∈D:=(hm 0).2 sI
 rcases hc with⟨hp,e⟩|⟨j,y,b,hp,j0,j1,hx,hk,hb,e⟩
 ·have hn:vZ mn 0 true [x] 0=false:=by
   have:=List.find?_eq_none.1 hp 0 h0
   simpa using this
  have hb:jE 0 x.F=none:=by
   simp only[vZ,okN,mayN,Int.toNat_zero,List.getElem?_cons_zero,Bool.true_or,Bool.true_and] at hn
   cases hq:jE 0 x.F with
   |none=>rfl
   |some b=>rw[hq] at hn;cases hn
  have hs:=FK hI hb
  have hF:=BZ hI hs
  refine⟨fun _=> ?_,fun q=>om⟩
  rw[e]
  have:xJ 0 [x]=5:=by unfold xJ qX;simp[hF]
  rw[this]
 ·obtain rfl:j=0:=by simp at j1;omega
  simp at hx
  subst hx
  refine⟨fun q=> ?_,fun _=>⟨b,hb,wP hI (jN hb).1,by rw[e];rfl⟩⟩
  have:=BZ hI q
  have h2:=(jN hb).1
  rw[this] at h2;cases h2
theorem sum_ins (f:Sl→Nat) (C:List Sl) (s:Sl):((oP C s).map f).sum=(C.map f).sum+f s:=by
 have:((C.take (oK s.nd s.pg C)).map f).sum+((C.drop (oK s.nd s.pg C)).map f).sum=(C.map f).sum:=by
  rw[←List.sum_append,←List.map_append,bP]
 unfold oP
 simp only[List.map_append,bX,List.sum_append,List.sum_cons]
 omega
theorem FM (f:Sl→Nat): ∀(C:List Sl) (i:Nat) (s t:Sl),C[i]?=some s→((C.set i t).map f).sum+f s=(C.map f).sum+f t
 |[],i,s,t,h=>by simp at h
 |c::C,0,s,t,h=>by simp at h;subst h;simp;omega
 |c::C,i+1,s,t,h=>by
  have:=FM f C i s t (by simpa using h)
  simp only[gF,bX,List.sum_cons];omega
theorem Ay (f:Sl→Nat) (r:Nat): ∀(C:List Sl),(∀s∈C,f s=r)→(C.map f).sum=C.length*r
 |[],h=>sI
 |c::C,h=>by
  have:=Ay f r C fun s q=>h s (ak _ q)
  have h1:=h c sI
  simp[this,h1,Nat.succ_mul];omega
structure qg (pages:Nat) (e i:Nat) (c:Ca):Prop where
 inv:l8 e c
 one: ∃x,c.L=[x]∧jA x.F=pages-(c.C.length:Int)
 tk:nD c.C=i
section
variable {mn:Int} {O:List (List Int)} {pages e i:Nat} {c:Ca}
theorem qg.nd (h:qg pages e i c) {s:Sl} (hs:s∈c.C):s.nd=0:=by
 obtain⟨x,hx,_⟩:=h.one
 have:=(h.inv.tk s hs).rng h.inv.zi
 rw[hx] at this;simp at this;omega
theorem qg.none_ (h:qg pages e i c) (hb:jU 0 c.C c.C.length=none):i=c.C.length*iM e:=by
 rw[←h.tk]
 refine Ay _ _ _ fun s hs=> ?_
 obtain⟨j,hj,hg⟩:=fT.1 hs
 have h1:=su hb j s hj (aj.2 ⟨hj,hg⟩) (h.nd hs)
 have h2:iD s≤s.T.length:=kU _
 rw[←h.inv.len s hs];omega
theorem qg.take (h:qg pages e i c) (hO:vV O 1) (hi:i<pages*iM e):
 (takeC mn O e c 0 true).2.1=0∧(takeC mn O e c 0 true).2.2.1=0∧qg pages e (i+1) (takeC mn O e c 0 true).1:=by
 have hI:=pI (mn:=mn) (O:=O) (v:=0) (u:=true) (by obtain⟨x,hx,_⟩:=h.one;rw[hx];exact hO) h.inv
 obtain⟨x,hx,hs⟩:=h.one
 have hv: ¬((0:Int)<0∨(c.L.length:Int)≤0):=by rw[hx];simp
 revert hI
 unfold takeC
 rw[if_neg hv]
 cases hb:jU 0 c.C c.C.length with
 |some k=>
  obtain⟨_,s,hk,hn,hm⟩:=jO hb
  simp only[hk]
  intro hI
  refine⟨trivial,by rw[mg];exact hn,hI,⟨x,hx,by simpa using hs⟩,?_⟩
  obtain⟨f1,f2,_⟩:=jr hm
  have h1:=pE f2 true
  have h2:=FM iD c.C k s (jH s (iO s.T) true) hk
  have h3:=h.tk
  have h4:iD (jH s (iO s.T) true)=jG (s.T.set (iO s.T) true):=rfl
  have h5:iD s=jG s.T:=rfl
  show((c.C.set k (jH s (iO s.T) true)).map iD).sum=i+1
  have h6:(c.C.map iD).sum=i:=h3
  simp only[if_true,gu,if_false] at h1
  omega
 |none=>
  have hfull:=h.none_ hb
  have hlt:c.C.length<pages:=by
   rcases dH c.C.length pages with q|q
   ·exact q
   ·have:=gY (iM e) q
    omega
  obtain⟨b,hbb,hf,et⟩:=(take_one (mn:=mn) hO (h.inv.zi x (by rw[hx];simp))).2 om
  simp only[hx,et,if_true]
  intro hI
  refine⟨trivial,trivial,hI,⟨qF 0 b x,rfl,?_⟩,?_⟩
  ·rw[Al]
   show jA (nL 0 b x.F)=_
   rw[(h.inv.zi x (by rw[hx];simp)).Br om hbb,hs]
   have:sz 0=1:=rfl
   push_cast;omega
  ·have h1:=sum_ins iD c.C (jH ⟨0,b.1,iG e⟩ 0 true)
   have h3:(c.C.map iD).sum=i:=h.tk
   have h4:=pG h.inv.e1 h.inv.e2
   have h5:=pE (T:=iG e) (k:=0) (b:=false) (by unfold iG;simp[eG];omega) true
   have h6:=pV e
   have h7:iD (jH ⟨0,b.1,iG e⟩ 0 true)=jG ((iG e).set 0 true):=rfl
   show((oP c.C (jH ⟨0,b.1,iG e⟩ 0 true)).map iD).sum=i+1
   simp only[if_true,gu,if_false] at h5
   omega
end
end
section
open Go.RowKit Go.Maps
attribute [local go_sem ↓] aW aX
theorem eqO (a k b m:Int) (w:World):(binOp .eql 49 (.agg #[.int .i64 a,.int .i64 k]) (.agg #[.int .i64 b,.int .i64 m])).run Tryz.prog w= .ok (.bool (a==b&&k==m)) w:=by
 have u3:=bg
 have a3:=fD
 have z3:=fA
 have hS:Tryz.prog.underlying 49=some (.struct (Tryz.prog.fieldsOf 49)):=kR
 have hp:Tryz.prog.stoodInHeld 49=false:=kR
 rw[run_eql_struct,show(10000:Nat)=9999+1 from rfl,run_equalIn_agg w 9999 49 _ _ hS hp]
 simp only[Program.fieldsOf,Tryz.underlying49]
 go_simp
 by_cases h1:a=b<;>by_cases h2:k=m<;>simp[h1,h2]
theorem vg:Tryz.prog.eqGuardType Tryz.prog.depth 49=false:=kR
theorem cov_sum {n:Int} (n0:0≤n):jA (oL 0 n)=n:=by
 have:=yB (nT n.toNat 0 n (aI _) n0)
 omega
theorem qg.start {pages e:Nat} {x:Nd} (hI:Inv x.n x.F x.T) (e1:1≤e) (e2:e≤64) (hF:x.F=oL 0 pages):qg pages e 0 ⟨[x],[]⟩:=
 ⟨⟨e1,e2,fun y hy=>by simp at hy;subst hy;exact hI,sI,List.Pairwise.nil,fun s hs=>(by cases hs),fun s hs=>(by cases hs)⟩,⟨x,rfl,by rw[hF,cov_sum om];simp⟩,rfl⟩
theorem xR: ∀{C:List Sl},(∀s∈C,s.T.length≤64)→nD C≤tH C∧tH C≤64*C.length
 |[],_=>⟨aI _,aI _⟩
 |s::C,h=>by
  obtain⟨h1,h2⟩:=xR (C:=C) fun x hx=>h x (ak _ hx)
  have h3:=h s sI
  have h4:iD s≤s.T.length:=kU _
  unfold nD tH at*
  simp only[bX,List.sum_cons,dw]
  omega
theorem Az {C:List Sl} {i:Nat} {s:Sl} (h:C[i]?=some s):nD (C.take (i+1))=nD (C.take i)+iD s∧tH (C.take (i+1))=tH (C.take i)+s.T.length:=by
 rw[bH,h]
 unfold nD tH
 simp
section
variable {B:Nat} {ev:Nat→Addr} {pc pz e:Nat} {mn lw hi:Int} {O:List (List Int)} {X:List Nat} {vs:Value} {A:SA} {c:Ca} {w:World}
theorem FQ (v:Int) (u:Bool) (hE:qM B ev w) (h:CS B w pc pz mn lw hi O e X vs A c) (hI:l8 e c):
 Calls Tryz.prog 23 #[.pointer (some ⟨pc,0,none⟩),.int .i64 v,.bool u] w (qK B ev pc pz mn lw hi O e X vs A c w (takeC mn O e c v u)):=by
 by_cases hv:v<0∨(c.L.length:Int)≤v
 ·exact Fy v u hE h hv
 ·obtain⟨n,rfl⟩: ∃n:Nat,v=n:=⟨v.toNat,om⟩
  exact D9 n u hE h hI hE.size om
theorem CS.new {L:List Nd} (h:jK B w pz mn lw hi O L) (hL:0<L.length) (hB:B≤w.heap.size) (e:Nat):
 CS B (w.alloc (.cells #[.pointer (some ⟨pz,0,none⟩),.int .i64 e,.slice none 0 0] 200)) w.heap.size pz mn lw hi O e (w.heap.size::ys L) (.slice none 0 0) [] ⟨L,[]⟩:=by
 have b:Below w.heap.size w (w.alloc (.cells #[.pointer (some ⟨pz,0,none⟩),.int .i64 e,.slice none 0 0] 200)):=iB
 have hc:cay w.heap.size (.slice none 0 0) []=[w.heap.size]:=rfl
 refine⟨(h.toX.more (fun x hx=>ak _ hx) (fun y hy=> ?_)).below b,⟨iy.mk_ w [.pointer (some ⟨pz,0,none⟩),.int .i64 e,.slice none 0 0] 200 rfl,⟨rfl,.inl ⟨rfl,rfl⟩⟩,rfl,fun i p s hp=>by simp at hp,fun y hy=> ?_,?_,fun y hy=> ?_⟩,fun y hy q=> ?_,hL⟩
 ·rcases aC.1 hy with rfl|q
  ·exact .inr (aI _)
  ·exact .inl q
 ·rw[hc] at hy;simp at hy;subst hy;exact aD ..
 ·rw[hc];simp
 ·rw[hc] at hy;simp at hy;subst hy;simp;exact hB
 ·rw[hc] at hy;simp at hy;subst hy
  have:=(h.b.lim _ q).2;omega
theorem count_ok (h:CS B w pc pz mn lw hi O e X vs A c) (hI:l8 e c):
 Calls Tryz.prog 135 #[.pointer (some ⟨pc,0,none⟩)] w fun r w'=>r= .returned (.tuple #[.int .i64 (nD c.C),.int .i64 (tH c.C)])∧Below w.heap.size w w':=by
 obtain⟨qv,kv,evs,kv1,kv2,hrow⟩:=h.ch.form
 subst evs
 have Fz:Hid (∀s∈c.C,s.T.length≤64):=fun s hs=>by rw[hI.len s hs];unfold iM;exact bU _ _
 have few:=hI.few
 have c2:=h.ch.c.c 2 _ rfl;have cl:=h.ch.c.lt
 have rR:=ah hrow;have HC:=ah h.ch
 have BD:Hid (∀i,nD (c.C.take i)≤65536∧tH (c.C.take i)≤65536):=fun i=>by
  obtain⟨h1,h2⟩:=xR (C:=c.C.take i) fun s hs=>Fz.out s (d9 hs)
  have h3:(c.C.take i).length≤1024:=by rw[aQ];omega
  omega
 have ALL:Hid (c.C.take c.C.length=c.C):=by show _=_;simp
 obtain⟨n,hn⟩: ∃n,n=c.C.length:=⟨_,rfl⟩
 have EN:=ah hn
 rw[←hn] at c2 few kv1 ALL
 unfold maxLen at kv2
 clear h hI hrow hn
 go_enter Tryz.func135,Tryz.ntmps135
 go_wp2_with fail
 go_loopw [2,3,11] (fun tv rv iv wr=>∃i:Nat,i≤n∧tv= .int .i64 (nD (c.C.take i))∧rv= .int .i64 (tH (c.C.take i))∧iv= .int .i64 i∧Below w.heap.size w wr) (fun _ _ iv _=>n-(intOf iv).toNat)
 case atStart=>exact⟨0,om,rfl,rfl,by go_num,iB⟩
 case round=>
  obtain⟨i,hile,rfl,rfl,rfl,hbel⟩:=hrel
  have BW:Hid (∀W,Below wr.heap.size wr W→Below w.heap.size w W):=fun W b=>hbel.trans (b.mono hbel.size)
  by_cases hin:i<n
  ·obtain⟨s,hs⟩: ∃s,c.C[i]?=some s:=⟨c.C[i]'(by rw[←EN.out];exact hin),au _⟩
   obtain⟨p,hp,hsl,_⟩:=(HC.out.below hbel).at hs
   obtain⟨g,rfl,hg,hc0⟩:=rR.out i p hp
   have ck:wr.cell? ⟨g,i,none⟩=some (.pointer (some ⟨p.1,0,none⟩)):=(hbel.cell (p:=⟨g,i,none⟩) hg).trans hc0
   have gl:g<wr.heap.size:=aF hg hbel.size
   have hik:i<kv:=om
   obtain⟨d0,d1,_,d3,d4,dl,_⟩:=hsl.cells
   obtain⟨t1,t2⟩:=BD.out i
   have s1:=Fz.out s (aB hs)
   have s2:iD s≤s.T.length:=kU _
   obtain⟨n1,n2⟩:=Az hs
   have N1:=ah n1;have N2:=ah n2
   clear hc0 hsl hs hp n1 n2
   generalize iD s=a at*
   generalize s.T.length=l at*
   generalize nD (c.C.take i)=ta at*
   generalize tH (c.C.take i)=ro at*
   go_wp2_with fail
   go_quiet (fail)
   go_wp2
   go_round
   case rel=>exact⟨i+1,om,by rw[N1.out];go_num,by rw[N2.out];go_num,by go_num,BW.out _ iB⟩
   case measure=>simp[intOf];omega
  ·obtain rfl:i=n:=by omega
   rw[ALL.out]
   go_wp2
   go_ret2
   exact⟨rfl,hbel⟩
end
end
section
open Go.RowKit Go.Lib
attribute [local go_sem ↓] aW aX
def DelPost (B:Nat) (g k i:Nat) (us:List Value) (w:World) (e:Ending) (w':World):Prop:=
 e= .returned (.slice (some ⟨g,0,none⟩) (us.length-1) k)∧w'.ownsRow B 208 1 (.slice (some ⟨g,0,none⟩) (us.length-1) k) (us.length-1) (us.eraseIdx i)∧Keep [g] w w'
end
section
open Go.RowKit Go.Maps
attribute [local go_sem ↓] aW aX
section
variable {B:Nat} {ev:Nat→Addr} {pc pz e:Nat} {mn lw hi:Int} {O:List (List Int)} {X:List Nat} {vs:Value} {A:SA} {c:Ca} {w w1 w':World}
end
end
end Go.Proofs.YtdcbhlcbiokbeaaGreatDoor
