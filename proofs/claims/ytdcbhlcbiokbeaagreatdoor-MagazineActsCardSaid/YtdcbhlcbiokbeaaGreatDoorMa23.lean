/- Lemmas and contracts for the claim's last text: RZNew, RDNew, DMo, DCutO, DZActs, RowAD. -/
import Derived.Test.YtdcbhlcbiokbeaaGreatDoorMa01
import Derived.Test.YtdcbhlcbiokbeaaGreatDoorMa03
import Derived.Test.YtdcbhlcbiokbeaaGreatDoorMa08
import Derived.Test.YtdcbhlcbiokbeaaGreatDoorMa11
import Derived.Test.YtdcbhlcbiokbeaaGreatDoorMa14
import Derived.Test.YtdcbhlcbiokbeaaGreatDoorMa15
import Derived.Test.YtdcbhlcbiokbeaaGreatDoorMa19
import Derived.Test.YtdcbhlcbiokbeaaGreatDoorMa20
import Derived.Test.YtdcbhlcbiokbeaaGreatDoorMa21
import Derived.Test.YtdcbhlcbiokbeaaGreatDoorMa22
set_option linter.unusedSimpArgs false
set_option linter.unusedVariables false
set_option maxHeartbeats 16000000
set_option maxRecDepth 100000
namespace Go.Proofs.YtdcbhlcbiokbeaaGreatDoor
section
open Go.RowKit
attribute [local go_sem ↓] aW aX
theorem DL (M:List Nat) (m:Nat):lX (M++[m])=lX M++[.pointer (some ⟨m,0,none⟩)]:=by simp[lX]
theorem elRBud:El 202 205 (.pointer none) 8:=⟨Tryz.underlying202,kR,rfl,om⟩
theorem cfg_far {P:List Int} {N:List (List Int)} {mn lw hi:Int} (h:oM P N mn lw hi=0): ∀l∈N,∀x∈l,0≤x∧x≤1000:=by
 have hb:tV P N mn lw hi=true:=by
  cases hq:tV P N mn lw hi with
  |true=>rfl
  |false=>rw[rO hq] at h;cases h
 unfold tV at hb
 simp only[bV] at hb
 have hf:N.any p9=false:=by simpa using hb.1.2
 intro l hl x hx
 have h1:=fG.1 hf l hl
 have h2:l.any kZ=false:=by simpa[p9] using h1
 have h3:=fG.1 h2 x hx
 unfold kZ at h3
 simp at h3
 omega
def rX (Y:List Nat) (pm:Nat) (vn vo:Value) (M:List Nat):List Nat:=pm::(iF vn++iF vo++M++Y)
theorem jM {Y:List Nat} {pm:Nat} {vn vo:Value} {M:List Nat} {y:Nat}:y∈rX Y pm vn vo M↔y=pm∨y∈iF vn∨y∈iF vo∨y∈M∨y∈Y:=by unfold rX;simp[or_assoc]
structure RSt (Y:List Nat) (w0 w:World) (pm:Nat) (cs:List Value) (vn vo:Value) (ns:List Int) (M:List Nat) (us:List Value) (Ds:List (List Int)):Prop where
 c5:cs.length=5
 z:iy w pm (cs++[vn,vo])
 on:w.ownsRow (w0.heap.size+2) 205 1 vn M.length (lX M)
 oo:w.ownsRow (w0.heap.size+2) 22 1 vo us.length us
 lD:Ds.length=us.length
 bud: ∀(j m:Nat) (n:Int),M[j]?=some m→ns[j]?=some n→∃v,oQ (rX Y pm vn vo M) w m n v (.slice none 0 0) (oL 0 n) []
 row: ∀(j:Nat) (u:Value) (D:List Int),us[j]?=some u→Ds[j]?=some D→jT (rX Y pm vn vo M) w u (ints D)
 ne: ∀y∈iF vn,y∉iF vo
 nm:M.Nodup∧∀m∈M,m≠pm∧m∉iF vn∧m∉iF vo
 pl:w0.heap.size<pm∧pm<w0.heap.size+2
 lm: ∀m∈M,w0.heap.size+2≤m∧m<w.heap.size
section
variable {Y:List Nat} {w0 w w':World} {pm:Nat} {cs:List Value} {vn vo:Value} {ns:List Int} {M:List Nat} {us:List Value} {Ds:List (List Int)}
theorem RSt.node (h:RSt Y w0 w pm cs vn vo ns M us Ds) {w1 W1 w4 w5:World} {m:Nat} {n:Int} {v vn':Value} (b1:Below w.heap.size w w1) (hs:w0.heap.size+2≤w.heap.size) (hb:oQ (m::rX Y pm vn vo M) w1 m n v (.slice none 0 0) (oL 0 n) []) (hm:w.heap.size≤m) (hn:ns[M.length]?=some n)
 (k1:Keep [] w1 W1) (hg:W1.grownBy w4 vn.ownBlock) (ho:vn'.ownBlock=vn.ownBlock∨vn'.ownBlock=some W1.heap.size) (hw:w4.ownsRow (w0.heap.size+2) 205 1 vn' (M.length+1) (lX M++[.pointer (some ⟨m,0,none⟩)])) (e5:w5=w4.setCell ⟨pm,5,none⟩ vn'):
 RSt Y w0 w5 pm cs vn' vo ns (M++[m]) us Ds∧Keep (pm::iF vn) w w5:=by
 have kA:Keep (iF vn) w1 w4:=(k1.mono (fun _ q=>by cases q)).then (jh hg)
 have kB:Keep (pm::iF vn) w1 w5:=by rw[e5];exact(kA.mono (fun _ q=>ak _ q)).setCell (p:=⟨pm,5,none⟩) (.inl sI) _
 have kC:Keep (pm::iF vn) w w5:=(Keep.of b1).then kB
 have z1:=b1.size
 have ml:=hb.lt
 have hpm:pm<w.heap.size:=by have:=h.pl;omega
 have hvn: ∀y∈iF vn,w0.heap.size+2≤y∧y<w.heap.size:=fun y hy=>iN h.on hy
 have hvo: ∀y∈iF vo,w0.heap.size+2≤y∧y<w.heap.size:=fun y hy=>iN h.oo hy
 have hvn': ∀y∈iF vn',y∈iF vn∨y=W1.heap.size:=fun y hy=>by
  rw[kI] at hy ⊢
  rcases ho with e|e
  ·exact .inl (e▸hy)
  ·rw[e] at hy;injection hy with hy;exact .inr hy.symm
 have hW:w1.heap.size≤W1.heap.size:=k1.size
 have hpo:pm∉iF vn:=fun q=>by have:=hvn _ q;have:=h.pl;omega
 have hpo2:pm∉iF vo:=fun q=>by have:=hvo _ q;have:=h.pl;omega
 have key: ∀y∈rX Y pm vn' vo (M++[m]),y∈m::rX Y pm vn vo M∨y=W1.heap.size:=fun y hy=>by
  rcases jM.1 hy with rfl|q|q|q|q
  ·exact .inl (by simp[jM])
  ·rcases hvn' y q with r|r
   ·exact .inl (ak _ (jM.2 (.inr (.inl r))))
   ·exact .inr r
  ·exact .inl (ak _ (jM.2 (.inr (.inr (.inl q)))))
  ·rcases aG.1 q with r|r
   ·exact .inl (ak _ (jM.2 (.inr (.inr (.inr (.inl r))))))
   ·simp at r;subst r;exact .inl sI
  ·exact .inl (ak _ (jM.2 (.inr (.inr (.inr (.inr q))))))
 have hS: ∀s∈pm::iF vn,s∈rX Y pm vn vo M:=fun s q=>by
  rcases aC.1 q with rfl|q
  ·exact jM.2 (.inl rfl)
  ·exact jM.2 (.inr (.inl q))
 have keepB: ∀{m':Nat} {n':Int} {v':Value} {wx:World},oQ (m::rX Y pm vn vo M) wx m' n' v' (.slice none 0 0) (oL 0 n') []→wx.heap.size≤W1.heap.size→Keep (pm::iF vn) wx w5→m'∉pm::iF vn→m'∈rX Y pm vn' vo (M++[m])→oQ (rX Y pm vn' vo (M++[m])) w5 m' n' v' (.slice none 0 0) (oL 0 n') []:=by
  intro m' n' v' wx hb' hx hk hn' hmm
  have h1:=hb'.more (Y:=W1.heap.size::m::rX Y pm vn vo M) (ak _ hb'.mem) (fun y hy=>by
   rcases aC.1 hy with rfl|q
   ·exact .inr hx
   ·exact .inl q)
  have h2:=h1.keep hk (fun s q=>.inl ⟨ak _ (ak _ (hS s q)),fun e=>hn' (e▸q)⟩)
  exact h2.sub hmm (fun y hy=>by
   rcases key y hy with q|q
   ·exact ak _ q
   ·rw[q];exact aD ..)
 have keepR: ∀{u:Value} {D:List Int},jT (rX Y pm vn vo M) w u (ints D)→jT (rX Y pm vn' vo (M++[m])) w5 u (ints D):=by
  intro u D hr
  have h1:=hr.more (Y:=W1.heap.size::m::rX Y pm vn vo M) (fun y hy=>by
   rcases aC.1 hy with rfl|q
   ·exact .inr om
   ·rcases aC.1 q with rfl|q
    ·exact .inr hm
    ·exact .inl q)
  have h2:=h1.keep kC (fun s q=>.inl (ak _ (ak _ (hS s q))))
  exact h2.sub (fun y hy=>by
   rcases key y hy with q|q
   ·exact ak _ q
   ·rw[q];exact aD ..)
 have hz4:iy w4 pm (cs++[vn,vo]):=((h.z.go b1).keep k1 sI).keep (jh hg) hpo
 have hz5:iy w5 pm (cs++[vn',vo]):=by
  rw[e5]
  have:=hz4.store 5 vn' (by simp[h.c5])
  rwa [show(cs++[vn,vo]).set 5 vn'=cs++[vn',vo] by rw[gT _ _ (by rw[h.c5];omega),h.c5];rfl] at this
 have own5:w5.ownsRow (w0.heap.size+2) 205 1 vn' (M.length+1) (lX M++[.pointer (some ⟨m,0,none⟩)]):=by
  rw[e5]
  exact iE hw ((Keep.refl [pm] _).setCell (p:=⟨pm,5,none⟩) (.inl sI) _) (fun x hx q=>by
   simp at hx;subst hx
   have:=iN hw q;have:=h.pl;omega)
 refine⟨⟨h.c5,hz5,by rw[aU,DL];exact own5,iE h.oo kC (fun x hx q=> ?_),h.lD,fun j m' n' hm' hn'=> ?_,fun j u D hu hD=>keepR (h.row j u D hu hD),fun y hy q=> ?_,⟨?_,fun m' hm'=> ?_⟩,h.pl,fun m' hm'=> ?_⟩,kC⟩
 ·rcases aC.1 hx with rfl|r
  ·exact hpo2 q
  ·exact h.ne x r q
 ·by_cases e:j=M.length
  ·subst e
   rw[bK (aI _)] at hm'
   simp at hm'
   subst hm'
   rw[hn] at hn';obtain rfl:=aH hn'
   refine⟨v,keepB hb hW kB (fun q=> ?_) (jM.2 (.inr (.inr (.inr (.inl sI)))))⟩
   rcases aC.1 q with r|r
   ·omega
   ·have:=hvn _ r;omega
  ·have hjl:j<M.length:=by
    have:=(aj.1 hm').1
    simp at this;omega
   rw[bE hjl] at hm'
   obtain⟨v',hb'⟩:=h.bud j m' n' hm' hn'
   have hmM:=aB hm'
   refine⟨v',keepB (hb'.more (ak _ hb'.mem) (fun y hy=>by
    rcases aC.1 hy with rfl|q
    ·exact .inr hm
    ·exact .inl q)) om kC (fun q=> ?_) (jM.2 (.inr (.inr (.inr (.inl (av _ hmM))))))⟩
   rcases aC.1 q with r|r
   ·exact(h.nm.2 m' hmM).1 r
   ·exact(h.nm.2 m' hmM).2.1 r
 ·rcases hvn' y hy with r|r
  ·exact h.ne y r q
  ·have:=hvo y q;omega
 ·exact cO.2 ⟨h.nm.1,sI,fun a ha b hb2=>by simp at hb2;subst hb2;have:=h.lm a ha;omega⟩
 ·rcases aG.1 hm' with q|q
  ·refine⟨(h.nm.2 m' q).1,fun r=> ?_,(h.nm.2 m' q).2.2⟩
   rcases hvn' m' r with s|s
   ·exact(h.nm.2 m' q).2.1 s
   ·have:=(h.lm m' q).2;omega
  ·simp at q;subst q
   refine⟨om,fun r=> ?_,fun r=>by have:=hvo _ r;omega⟩
   rcases hvn' m' r with s|s
   ·have:=hvn _ s;omega
   ·omega
 ·have:=kC.size
  rcases aG.1 hm' with q|q
  ·have:=h.lm m' q;omega
  ·simp at q;subst q
   have:=kB.size
   omega
theorem RSt.order (h:RSt Y w0 w pm cs vn vo ns M us Ds) {w1 W1 w4 w5:World} {u vo':Value} {D:List Int} (b1:Below w.heap.size w w1) (hs:w0.heap.size+2≤w.heap.size) (hr:jT [] w1 u (ints D)) (hg1: ∀g,g∈iF u→w.heap.size≤g) (hru:jT (rX Y pm vn vo M) w1 u (ints D))
 (k1:Keep [] w1 W1) (hg:W1.grownBy w4 vo.ownBlock) (ho:vo'.ownBlock=vo.ownBlock∨vo'.ownBlock=some W1.heap.size) (hw:w4.ownsRow (w0.heap.size+2) 22 1 vo' (us.length+1) (us++[u])) (e5:w5=w4.setCell ⟨pm,6,none⟩ vo'):
 RSt Y w0 w5 pm cs vn vo' ns M (us++[u]) (Ds++[D])∧Keep (pm::iF vo) w w5:=by
 have kA:Keep (iF vo) w1 w4:=(k1.mono (fun _ q=>by cases q)).then (jh hg)
 have kB:Keep (pm::iF vo) w1 w5:=by rw[e5];exact(kA.mono (fun _ q=>ak _ q)).setCell (p:=⟨pm,6,none⟩) (.inl sI) _
 have kC:Keep (pm::iF vo) w w5:=(Keep.of b1).then kB
 have z1:=b1.size
 have hpm:pm<w.heap.size:=by have:=h.pl;omega
 have hvn: ∀y∈iF vn,w0.heap.size+2≤y∧y<w.heap.size:=fun y hy=>iN h.on hy
 have hvo: ∀y∈iF vo,w0.heap.size+2≤y∧y<w.heap.size:=fun y hy=>iN h.oo hy
 have hvo': ∀y∈iF vo',y∈iF vo∨y=W1.heap.size:=fun y hy=>by
  rw[kI] at hy ⊢
  rcases ho with e|e
  ·exact .inl (e▸hy)
  ·rw[e] at hy;injection hy with hy;exact .inr hy.symm
 have hW:w1.heap.size≤W1.heap.size:=k1.size
 have hpo:pm∉iF vo:=fun q=>by have:=hvo _ q;have:=h.pl;omega
 have hpo2:pm∉iF vn:=fun q=>by have:=hvn _ q;have:=h.pl;omega
 have key: ∀y∈rX Y pm vn vo' M,y∈rX Y pm vn vo M∨y=W1.heap.size:=fun y hy=>by
  rcases jM.1 hy with rfl|q|q|q|q
  ·exact .inl (jM.2 (.inl rfl))
  ·exact .inl (jM.2 (.inr (.inl q)))
  ·rcases hvo' y q with r|r
   ·exact .inl (jM.2 (.inr (.inr (.inl r))))
   ·exact .inr r
  ·exact .inl (jM.2 (.inr (.inr (.inr (.inl q)))))
  ·exact .inl (jM.2 (.inr (.inr (.inr (.inr q)))))
 have hS: ∀s∈pm::iF vo,s∈rX Y pm vn vo M:=fun s q=>by
  rcases aC.1 q with rfl|q
  ·exact jM.2 (.inl rfl)
  ·exact jM.2 (.inr (.inr (.inl q)))
 have keepR: ∀{u:Value} {D:List Int} {wx:World},jT (rX Y pm vn vo M) wx u (ints D)→wx.heap.size≤W1.heap.size→Keep (pm::iF vo) wx w5→jT (rX Y pm vn vo' M) w5 u (ints D):=by
  intro u D wx hr hx hk
  have h1:=hr.more (Y:=W1.heap.size::rX Y pm vn vo M) (fun y hy=>by
   rcases aC.1 hy with rfl|q
   ·exact .inr hx
   ·exact .inl q)
  have h2:=h1.keep hk (fun s q=>.inl (ak _ (hS s q)))
  exact h2.sub (fun y hy=>by
   rcases key y hy with q|q
   ·exact ak _ q
   ·rw[q];exact aD ..)
 have hz4:iy w4 pm (cs++[vn,vo]):=((h.z.go b1).keep k1 sI).keep (jh hg) hpo
 have hz5:iy w5 pm (cs++[vn,vo']):=by
  rw[e5]
  have:=hz4.store 6 vo' (by simp[h.c5])
  rwa [show(cs++[vn,vo]).set 6 vo'=cs++[vn,vo'] by rw[gT _ _ (by rw[h.c5];omega),h.c5];rfl] at this
 have own5:w5.ownsRow (w0.heap.size+2) 22 1 vo' (us.length+1) (us++[u]):=by
  rw[e5]
  exact iE hw ((Keep.refl [pm] _).setCell (p:=⟨pm,6,none⟩) (.inl sI) _) (fun x hx q=>by
   simp at hx;subst hx
   have:=iN hw q;have:=h.pl;omega)
 refine⟨⟨h.c5,hz5,iE h.on kC (fun x hx q=> ?_),by rw[aU];exact own5,by simp[h.lD],fun j m' n' hm' hn'=> ?_,fun j u' D' hu hD=> ?_,fun y hy q=> ?_,⟨h.nm.1,fun m' hm'=> ?_⟩,h.pl,fun m' hm'=>⟨(h.lm m' hm').1,aF (h.lm m' hm').2 kC.size⟩⟩,kC⟩
 ·rcases aC.1 hx with rfl|r
  ·exact hpo2 q
  ·exact h.ne x q r
 ·obtain⟨v',hb'⟩:=h.bud j m' n' hm' hn'
  have hmM:=aB hm'
  have h1:=hb'.more (Y:=W1.heap.size::rX Y pm vn vo M) (ak _ hb'.mem) (fun y hy=>by
   rcases aC.1 hy with rfl|q
   ·exact .inr om
   ·exact .inl q)
  have h2:=h1.keep kC (fun s q=>.inl ⟨ak _ (hS s q),fun e=>by
   rw[e] at q
   rcases aC.1 q with r|r
   ·exact(h.nm.2 m' hmM).1 r
   ·exact(h.nm.2 m' hmM).2.2 r⟩)
  exact⟨v',h2.sub (jM.2 (.inr (.inr (.inr (.inl hmM))))) (fun y hy=>by
   rcases key y hy with q|q
   ·exact ak _ q
   ·rw[q];exact aD ..)⟩
 ·by_cases e:j=us.length
  ·subst e
   rw[bK (aI _)] at hu
   rw[bK (by rw[h.lD];exact aI _),h.lD] at hD
   simp at hu hD
   subst hu hD
   exact keepR hru hW kB
  ·have hjl:j<us.length:=by
    have:=(aj.1 hu).1
    simp at this;omega
   rw[bE hjl] at hu
   rw[bE (by rw[h.lD];exact hjl)] at hD
   exact keepR (h.row j u' D' hu hD) om kC
 ·rcases hvo' y q with r|r
  ·exact h.ne y hy r
  ·have:=hvn y hy;omega
 ·refine⟨(h.nm.2 m' hm').1,(h.nm.2 m' hm').2.1,fun r=> ?_⟩
  rcases hvo' m' r with s|s
  ·exact(h.nm.2 m' hm').2.2 s
  ·have:=(h.lm m' hm').2;omega
end
def Co (Y:List Nat) (mn lw hi:Int) (O:List (List Int)) (L:List Nd) (w:World) (e:Ending) (w':World):Prop:=
 ∃(X M:List Nat) (pm gN:Nat),e= .returned (.pointer (some ⟨pm,0,none⟩))∧RZ X w' pm gN mn lw hi O M L∧(∀x∈X,(x∈Y∨w.heap.size≤x)∧x<w'.heap.size)∧(∀y∈Y,y∈X)∧(pm∉Y∧gN∉Y∧∀m∈M,m∉Y)∧Below w.heap.size w w'
theorem Ba (Y:List Nat) (vP vN:Value) (P:List Int) (N:List (List Int)) (mn lw hi:Int) (O:List (List Int)) (L:List Nd) (w:World) (hY: ∀y∈Y,y<w.heap.size) (h:Cfg [] w vP vN P N) (hc:oM P N mn lw hi=0) (hhi:hi≤9223372036854775807)
 (hL:L.map (·.n)=P) (hF: ∀x∈L,x.F=oL 0 x.n∧x.T=[]) (hI: ∀x∈L,Inv x.n x.F x.T) (hO:vV O L.length) (hD: ∀(i:Nat) (l D:List Int),N[i]?=some l→O[i]?=some D→mO l P.length D):
 Calls Tryz.prog 22 #[.agg #[vP,vN,.int .i64 mn,.int .i64 lw,.int .i64 hi]] w (Co Y mn lw hi O L w):=by
 obtain⟨c1,c2,c3,c4,c5,c6,c7,c8⟩:=BX hc
 obtain⟨p,cap,rfl,hcp,hmx,hcl⟩:=h.p.int
 obtain⟨q,k,rfl,hck,hkm,_⟩:=h.n.form
 have HY:=ah hY
 have CLl:=ah hcl;have C3:=ah c3;have C4:=ah c4;have C5:=ah c5
 have HLN:Hid (L.length=P.length):=by show _=_;rw[←hL,List.length_map]
 have HMM:=ah hL;have HF:=ah hF;have HI:=ah hI;have HO:=ah hO;have HD:=ah hD
 have CR:Hid (∀l∈N,∀x∈l,0≤x∧x≤1000):=cfg_far hc
 obtain⟨n,hn⟩: ∃n,n=P.length:=⟨_,rfl⟩
 have EN:=ah hn
 rw[c4,←hn] at hck ⊢
 have HH:Hid (Cfg [] w (.slice p n cap) (.slice q n k) P N):=by show Cfg _ _ _ _ _ _;rw[c4,←hn] at h;exact h
 rw[←hn] at hcp c1 c2
 have L0:=ah ((iy.mk_ w [.slice p n cap,.slice q n k,.int .i64 mn,.int .i64 lw,.int .i64 hi] 27 rfl).past (.cells #[.slice p n cap,.slice q n k,.int .i64 mn,.int .i64 lw,.int .i64 hi,.slice none 0 0,.slice none 0 0] 204))
 have Z0:=iy.mk_ (w.alloc (.cells [.slice p n cap,.slice q n k,.int .i64 mn,.int .i64 lw,.int .i64 hi].toArray 27)) [.slice p n cap,.slice q n k,.int .i64 mn,.int .i64 lw,.int .i64 hi,.slice none 0 0,.slice none 0 0] 204 (b:=w.heap.size+1) sI
 have S0:Hid (RSt Y w ((w.alloc (.cells [.slice p n cap,.slice q n k,.int .i64 mn,.int .i64 lw,.int .i64 hi].toArray 27)).alloc (.cells [.slice p n cap,.slice q n k,.int .i64 mn,.int .i64 lw,.int .i64 hi,.slice none 0 0,.slice none 0 0].toArray 204)) (w.heap.size+1) [.slice p n cap,.slice q n k,.int .i64 mn,.int .i64 lw,.int .i64 hi] (.slice none 0 0) (.slice none 0 0) P [] [] []):=
  ⟨rfl,Z0,aR _ _ _ _,aR _ _ _ _,rfl,fun j m x hm=>by simp at hm,fun j u D hu=>by simp at hu,fun y hy=>by simp[iF,Value.ownBlock] at hy,⟨List.nodup_nil,fun m hm=>by cases hm⟩,⟨om,om⟩,fun m hm=>by cases hm⟩
 have B0:Hid (Below w.heap.size w ((w.alloc (.cells [.slice p n cap,.slice q n k,.int .i64 mn,.int .i64 lw,.int .i64 hi].toArray 27)).alloc (.cells [.slice p n cap,.slice q n k,.int .i64 mn,.int .i64 lw,.int .i64 hi,.slice none 0 0,.slice none 0 0].toArray 204))):=iB
 unfold maxLen at hmx hkm
 clear hY h hc hL hF hI hO hD hcl c3 c4 c5 Z0 hn
 go_enter Tryz.func22,Tryz.ntmps22
 go_wp2_with fail
 go_loopw [4] (fun iv wr=>∃(i:Nat) (qn qo:Option Addr) (kn ko:Nat) (M:List Nat) (us:List Value),i≤n∧iv= .int .i64 i∧Hid (M.length=i∧us.length=i)∧Hid (RSt Y w wr (w.heap.size+1) [.slice p n cap,.slice q n k,.int .i64 mn,.int .i64 lw,.int .i64 hi] (.slice qn i kn) (.slice qo i ko) P M us (O.take i))∧Hid (iy wr w.heap.size [.slice p n cap,.slice q n k,.int .i64 mn,.int .i64 lw,.int .i64 hi])∧Below w.heap.size w wr∧w.heap.size+2≤wr.heap.size) (fun iv _=>n-(intOf iv).toNat)
 case atStart=>exact⟨0,none,none,0,0,[],[],aO _,by go_num,⟨rfl,rfl⟩,S0,L0,B0.out,sI⟩
 case round=>
  obtain⟨i,qn,qo,kn,ko,M,us,hin,rfl,HLEN,HR,HC,hbel,hsz⟩:=hrel
  clear L0 S0 B0
  by_cases hlt:i<n
  ·obtain⟨x,hx⟩: ∃x,P[i]?=some x:=⟨P[i]'(by rw[←EN.out];exact hlt),au _⟩
   obtain⟨gp,op,rfl,_,hgp,hcx⟩:=CLl.out i x hx
   have r1:=(hbel.cell (p:=⟨gp,op+i,none⟩) hgp).trans hcx
   have gr:gp<wr.heap.size:=om
   have hxr:=C3.out x (aB hx)
   have i0:(0:Int)≤(i:Int):=om
   have i1:(i:Int)<(n:Int):=om
   have hst:=HR.out
   have RX:Hid (∀y∈rX Y (w.heap.size+1) (.slice qn i kn) (.slice qo i ko) M,y<wr.heap.size):=fun y hy=>by
    rcases jM.1 hy with rfl|q|q|q|q
    ·omega
    ·exact(iN hst.on q).2
    ·exact(iN hst.oo q).2
    ·exact(hst.lm y q).2
    ·have:=HY.out y q;have:=hbel.size;omega
   have NB:Hid (∀W,Below wr.heap.size wr W→Calls Tryz.prog 113 #[.int .i64 x] W fun e w'=>∃m v,e= .returned (.pointer (some ⟨m,0,none⟩))∧oQ (m::rX Y (w.heap.size+1) (.slice qn i kn) (.slice qo i ko) M) w' m x v (.slice none 0 0) (oL 0 x) []∧W.heap.size≤m∧Below W.heap.size W w'):=fun W hW=>AQ x W hxr.1 hxr.2 (fun y hy=>aF (RX.out y hy) hW.size)
   have HX:=ah hx
   have z0:=hst.z
   have z5:=z0.c 5 _ rfl;have z6:=z0.c 6 _ rfl;have zl:=z0.lt
   have a0:=HC.out.c 0 _ rfl;have a1:=HC.out.c 1 _ rfl;have a2:=HC.out.c 2 _ rfl;have a3:=HC.out.c 3 _ rfl;have a4:=HC.out.c 4 _ rfl;have al:=HC.out.lt
   have ZB:Hid (∀W,Below wr.heap.size wr W→W.cell? ⟨w.heap.size+1,5,none⟩=some (.slice qn i kn)∧w.heap.size+1<W.heap.size):=fun W hW=>⟨(hW.cell (p:=⟨w.heap.size+1,5,none⟩) zl).trans z5,aF zl hW.size⟩
   clear hx hcx hst z0
   go_wp2_with fail
   have ML:Hid (M.length=i):=HLEN.out.1
   have UL:Hid (us.length=i):=HLEN.out.2
   have ON:Hid (∀W,Keep [] wr W→W.ownsRow (w.heap.size+2) 205 1 (.slice qn i kn) (lX M).length (lX M)):=fun W k=>by rw[kH,ML.out];have:=iE HR.out.on k (fun x hx=>by cases hx);rwa [ML.out] at this
   have MPL:Hid ((lX M).length+1=i+1):=by show _=_;rw[kH,ML.out]
   have CC:Hid (∀W,Below wr.heap.size wr W→W.cell? ⟨w.heap.size,0,none⟩=some (.slice (some ⟨gp,op,none⟩) n cap)∧W.cell? ⟨gp,op+i,none⟩=some (.int .i64 x)):=fun W hW=>⟨(hW.cell (p:=⟨w.heap.size,0,none⟩) al).trans a0,(hW.cell (p:=⟨gp,op+i,none⟩) gr).trans r1⟩
   have HOW:Hid (∀b,b<w.heap.size+2→b∉iF (.slice qn i kn)):=fun b hb q=>by have:=(iN HR.out.on q).1;omega
   have ne1:w.heap.size+1≠gp:=om
   have ZF:Hid (∀W,Below wr.heap.size wr W→W.frozen? ⟨w.heap.size+1,5,none⟩=false):=fun W hW=>(hW.frozen (p:=⟨w.heap.size+1,5,none⟩) zl).trans (HR.out.z.f 5 sI)
   refine iP (S:=(fun w'=>w'.cell? ⟨w.heap.size,0,none⟩=some (.slice (some ⟨gp,op,none⟩) n cap)∧w'.cell? ⟨gp,op+i,none⟩=some (.int .i64 x)∧w'.cell? ⟨w.heap.size+1,5,none⟩=some (.slice qn i kn))) 15 #[false,false,false,false,false,false,false,false,false,false,false,false,false,false,false] rfl kR kR (by(try dsimp only);go_keep) (fun hHeld=> ?_)
   simp only[aV,bB]
   refine ctk (i:=0) (v:= ?_) rfl (fun _ _ _ h=>h) (Or.inl ⟨rf,?_⟩) ?_
   rotate_left
   ·(intro w hSw;(try dsimp only at hSw);go_simp<;>with_reducible rfl)
   try simp only[Act.put,pA,pZ,pS]
   refine ctk (i:=1) (v:= ?_) rfl (fun _ _ _ h=>h) (Or.inl ⟨rf,?_⟩) ?_
   rotate_left
   ·(intro w hSw;(try dsimp only at hSw);go_simp<;>with_reducible rfl)
   try simp only[Act.put,pA,pZ,pS]
   refine ctk (i:=2) (v:= ?_) rfl (fun _ _ _ h=>h) (Or.inl ⟨rf,?_⟩) ?_
   rotate_left
   ·(intro w hSw;(try dsimp only at hSw);go_simp<;>with_reducible rfl)
   try simp only[Act.put,pA,pZ,pS]
   refine ctk (i:=3) (v:= ?_) rfl (fun _ _ _ h=>h) (Or.inl ⟨rf,?_⟩) ?_
   rotate_left
   ·(intro w hSw;(try dsimp only at hSw);go_simp<;>with_reducible rfl)
   try simp only[Act.put,pA,pZ,pS]
   refine ctk (i:=4) (v:= ?_) rfl (fun _ _ _ h=>h) (Or.inl ⟨rf,?_⟩) ?_
   rotate_left
   ·(intro w hSw;(try dsimp only at hSw);go_simp<;>with_reducible rfl)
   try simp only[Act.put,pA,pZ,pS]
   refine ctk (i:=5) (v:= ?_) rfl (fun _ _ _ h=>h) (Or.inl ⟨rf,?_⟩) ?_
   rotate_left
   ·(intro w hSw;(try dsimp only at hSw);go_simp<;>with_reducible rfl)
   try simp only[Act.put,pA,pZ,pS]
   refine ctk (i:=6) (v:= ?_) rfl (fun _ _ _ h=>h) (Or.inl ⟨rf,?_⟩) ?_
   rotate_left
   ·(intro w hSw;(try dsimp only at hSw);go_simp<;>with_reducible rfl)
   try simp only[Act.put,pA,pZ,pS]
   refine ctk (i:=7) (v:= ?_) rfl (fun _ _ _ h=>h) (Or.inl ⟨rf,?_⟩) ?_
   rotate_left
   ·(intro w hSw;(try dsimp only at hSw);go_simp<;>with_reducible rfl)
   try simp only[Act.put,pA,pZ,pS]
   refine ctk (i:=8) (v:= ?_) rfl (fun _ _ _ h=>h) (Or.inl ⟨rf,?_⟩) ?_
   rotate_left
   ·(intro w hSw;(try dsimp only at hSw);go_simp<;>with_reducible rfl)
   try simp only[Act.put,pA,pZ,pS]
   refine ctk (i:=9) (v:= ?_) rfl (fun _ _ _ h=>h) (Or.inl ⟨rf,?_⟩) ?_
   rotate_left
   ·(intro w hSw;(try dsimp only at hSw);go_simp<;>with_reducible rfl)
   try simp only[Act.put,pA,pZ,pS]
   refine wpAnyH_ready (rs:=[10]) kR sI ?_
   refine aY (iH rfl) (fun K hK=> ?_) bC
   go_simp
   go_at_call 113
   refine(NB.out _ iB).mono ?_
   rintro e w2 ⟨m,v,rfl,uV,hm,hb2⟩
   have B2:Below wr.heap.size wr w2:=dW iB (hb2.mono sI)
   have y5:=(ZB.out w2 B2).1;have yl:=(ZB.out w2 B2).2;have x0:=(CC.out w2 B2).1;have x1:=(CC.out w2 B2).2
   refine hK.out _ _ (by(try dsimp only);go_keep) (fun hHeld=> ?_)
   clear hK K
   try simp only[Act.put,pA,pZ,pS]
   refine wpAnyH_ready (rs:=[11]) kR sI ?_
   refine aY (iH rfl) (fun K hK=> ?_) bC
   go_simp
   refine hK.out _ _ (by(try dsimp only);go_keep) (fun hHeld=> ?_)
   clear hK K
   try simp only[Act.put,pA,pZ,pS]
   refine wpAnyH_ready (rs:=[12]) kR sI ?_
   refine aY (iH rfl) (fun K hK=> ?_) bC
   refine mJ (base:=w.heap.size+2) (v:=.slice qn i kn) (us:=lX M) (ms:=[.pointer (some ⟨m,0,none⟩)]) elRBud rf (.tmp 19) (.tmp 26) rf rf 1 rf rfl (ON.out _ (by repeat(first|exact Keep.of B2|refine Keep.alloc ?_ _|refine Keep.drew ?_|refine Keep.drewN ?_ _|refine Keep.setCell ?_ (.inr (by first|omega|(simp;omega)|(simp;done))) _))) (by refine xQ ?_;(try simp only[eO]);rw[aK _ _ _ _ (by first|omega|(simp;omega)|(simp;done))];rfl) (by intro x hx;simp at hx;subst hx;rfl) (by have:=MPL.out;simp at this ⊢;omega) (by have:=B2.size;simp at*;omega) ?_
   intro qn' kn' w4 iK hg4 ho4
   have k4:Keep (iF (.slice qn i kn)) w2 w4:=(show Keep (iF (.slice qn i kn)) w2 _ from(by repeat(first|exact Keep.refl _ _|refine Keep.alloc ?_ _|refine Keep.drew ?_|refine Keep.drewN ?_ _|refine Keep.setCell ?_ (.inr (by first|omega|(simp;omega)|(simp;done))) _))).then (jh hg4)
   have u0:=(k4.cell (b:=w.heap.size) (o:=0) (by have:=B2.size;omega) (HOW.out _ om)).trans x0;have u1:=(k4.cell (b:=gp) (o:=op+i) (by have:=B2.size;omega) (HOW.out _ om)).trans x1;have u5:=(k4.cell (b:=w.heap.size+1) (o:=5) yl (HOW.out _ om)).trans y5;have f5:=(k4.frozen (b:=w.heap.size+1) (o:=5) yl (HOW.out _ om)).trans (ZF.out w2 B2)
   refine hK.out _ _ (by(try dsimp only);go_keep) (fun hHeld=> ?_)
   clear hK K
   try simp only[Act.put,pA,pZ,pS]
   refine ctk (i:=13) (v:= ?_) rfl (fun _ _ _ h=>h) (Or.inl ⟨rf,?_⟩) ?_
   rotate_left
   ·(intro w hSw;(try dsimp only at hSw);go_simp<;>with_reducible rfl)
   try simp only[Act.put,pA,pZ,pS]
   refine ctk (i:=14) (v:= ?_) rfl (fun _ _ _ h=>h) (Or.inl ⟨rf,?_⟩) ?_
   rotate_left
   ·(intro w hSw;(try dsimp only at hSw);go_simp<;>with_reducible rfl)
   try simp only[Act.put,pA,pZ,pS]
   refine wpAnyH_done kR ?_ _
   simp only[nR,aS,bq]
   go_wp2_with fail
   all_goals
    have e4:(lX M++[Value.pointer (some ⟨m,0,none⟩)]).length=i+1:=by simp[kH,ML.out]
    have e4':(lX M).length+1=i+1:=MPL.out
    rw[e4] at iK ho4
    obtain⟨w5,hw5⟩: ∃w5,w5=w4.setCell ⟨w.heap.size+1,5,none⟩ (.slice qn' (i+1) kn'):=⟨_,rfl⟩
    have ND:=RSt.node (w5:=w5) (vn':=.slice qn' (i+1) kn') HR.out B2 hsz uV (by simpa using hm) (by rw[ML.out];exact HX.out) (show Keep [] w2 _ from(by repeat(first|exact Keep.refl _ _|refine Keep.alloc ?_ _|refine Keep.drew ?_|refine Keep.drewN ?_ _|refine Keep.setCell ?_ (.inr (by first|omega|(simp;omega)|(simp;done))) _))) hg4 ho4 (by rw[ML.out];exact iK) hw5
    have HR5:=ah (show RSt Y w w5 (w.heap.size+1) [.slice (some ⟨gp,op,none⟩) n cap,.slice q n k,.int .i64 mn,.int .i64 lw,.int .i64 hi] (.slice qn' (i+1) kn') (.slice qo i ko) P (M++[m]) us (O.take i) from ND.1)
    have K5:=ah ND.2
    clear ND
    simp only[e4']
    rw[←hw5]
    have w5l:w.heap.size+2≤w5.heap.size:=by have:=K5.out.size;omega
    have B5:Below w.heap.size w w5:=by
     refine hbel.trans (K5.out.below om (fun s hs=> ?_))
     rcases aC.1 hs with r|r
     ·omega
     ·have:=(iN HR.out.on r).1;omega
    have HB5:=ah B5
    have C5':=HC.out.keep K5.out (fun hs=>by
     rcases aC.1 hs with r|r
     ·omega
     ·have:=(iN HR.out.on r).1;omega)
    have HC5:=ah C5'
    obtain⟨l,hl⟩: ∃l,N[i]?=some l:=⟨N[i]'(by rw[C4.out,←EN.out];exact hlt),au _⟩
    obtain⟨D,hD,hDl,hDm⟩:=HO.out.get (i:=i) (by rw[HLN.out,←EN.out];exact hlt)
    have HDD:=ah hD
    have FR:Hid (∀W,Below w5.heap.size w5 W→Calls Tryz.prog 114 #[.agg #[.slice (some ⟨gp,op,none⟩) n cap,.slice q n k,.int .i64 mn,.int .i64 lw,.int .i64 hi],.int .i64 i] W (Cn D W)):=fun W hW=>zU _ _ P N mn lw hi i l D W (HH.out.below (HB5.out.trans (hW.mono om))) hl (C5.out l (aB hl)) C4.out (by rw[←EN.out];exact c2) (CR.out l (aB hl)) (HD.out i l D hl hD)
    have s0:=C5'.c 0 _ rfl;have s1:=C5'.c 1 _ rfl;have s2:=C5'.c 2 _ rfl;have s3:=C5'.c 3 _ rfl;have s4:=C5'.c 4 _ rfl;have sl:=C5'.lt
    have zz:=HR5.out.z
    have z6':=zz.c 6 _ rfl;have zl':=zz.lt
    have CC5:Hid (∀W,Below w5.heap.size w5 W→iy W w.heap.size [.slice (some ⟨gp,op,none⟩) n cap,.slice q n k,.int .i64 mn,.int .i64 lw,.int .i64 hi]):=fun W hW=>HC5.out.go hW
    have ZZ5:Hid (∀W,Below w5.heap.size w5 W→iy W (w.heap.size+1) ([.slice (some ⟨gp,op,none⟩) n cap,.slice q n k,.int .i64 mn,.int .i64 lw,.int .i64 hi]++[.slice qn' (i+1) kn',.slice qo i ko])):=fun W hW=>HR5.out.z.go hW
    have OO5:Hid (∀W,Keep [] w5 W→W.ownsRow (w.heap.size+2) 22 1 (.slice qo i ko) us.length us):=fun W k=>iE HR5.out.oo k (fun x hx=>by cases hx)
    have HOW6:Hid (∀b,b<w.heap.size+2→b∉iF (.slice qo i ko)):=fun b hb q=>by have:=(iN HR5.out.oo q).1;omega
    clear z5 z6 zl a0 a1 a2 a3 a4 al r1 y5 yl x0 x1 u0 u1 u5 f5 iK ho4 hg4 k4 hw5 e4 e4' hl hD hDl hDm C5' zz B5 uV hm hb2
    go_wp2_with fail
    refine iP (S:=(fun w'=>w'.cell? ⟨w.heap.size,0,none⟩=some (.slice (some ⟨gp,op,none⟩) n cap)∧w'.cell? ⟨w.heap.size,1,none⟩=some (.slice q n k)∧w'.cell? ⟨w.heap.size,2,none⟩=some (.int .i64 mn)∧w'.cell? ⟨w.heap.size,3,none⟩=some (.int .i64 lw)∧w'.cell? ⟨w.heap.size,4,none⟩=some (.int .i64 hi)∧w'.cell? ⟨w.heap.size+1,6,none⟩=some (.slice qo i ko))) 12 #[false,false,false,false,false,false,false,false,false,false,false,false] rfl kR kR (by(try dsimp only);go_keep) (fun hHeld=> ?_)
    simp only[aV,bB]
    refine ctk (i:=0) (v:= ?_) rfl (fun _ _ _ h=>h) (Or.inl ⟨rf,?_⟩) ?_
    rotate_left
    ·(intro w hSw;(try dsimp only at hSw);go_simp<;>with_reducible rfl)
    try simp only[Act.put,pA,pZ,pS]
    refine ctk (i:=1) (v:= ?_) rfl (fun _ _ _ h=>h) (Or.inl ⟨rf,?_⟩) ?_
    rotate_left
    ·(intro w hSw;(try dsimp only at hSw);go_simp<;>with_reducible rfl)
    try simp only[Act.put,pA,pZ,pS]
    refine ctk (i:=2) (v:= ?_) rfl (fun _ _ _ h=>h) (Or.inl ⟨rf,?_⟩) ?_
    rotate_left
    ·(intro w hSw;(try dsimp only at hSw);go_simp<;>with_reducible rfl)
    try simp only[Act.put,pA,pZ,pS]
    refine ctk (i:=3) (v:= ?_) rfl (fun _ _ _ h=>h) (Or.inl ⟨rf,?_⟩) ?_
    rotate_left
    ·(intro w hSw;(try dsimp only at hSw);go_simp<;>with_reducible rfl)
    try simp only[Act.put,pA,pZ,pS]
    refine ctk (i:=4) (v:= ?_) rfl (fun _ _ _ h=>h) (Or.inl ⟨rf,?_⟩) ?_
    rotate_left
    ·(intro w hSw;(try dsimp only at hSw);go_simp<;>with_reducible rfl)
    try simp only[Act.put,pA,pZ,pS]
    refine ctk (i:=5) (v:= ?_) rfl (fun _ _ _ h=>h) (Or.inl ⟨rf,?_⟩) ?_
    rotate_left
    ·(intro w hSw;(try dsimp only at hSw);go_simp<;>with_reducible rfl)
    try simp only[Act.put,pA,pZ,pS]
    refine ctk (i:=6) (v:= ?_) rfl (fun _ _ _ h=>h) (Or.inl ⟨rf,?_⟩) ?_
    rotate_left
    ·(intro w hSw;(try dsimp only at hSw);go_simp<;>with_reducible rfl)
    try simp only[Act.put,pA,pZ,pS]
    refine wpAnyH_ready (rs:=[7]) kR sI ?_
    refine aY (iH rfl) (fun K hK=> ?_) bC
    go_simp
    go_at_call 114
    refine(FR.out _ iB).mono ?_
    rintro e w6 ⟨q6,k6,rfl,hown6,hb6⟩
    have B6:Below w5.heap.size w5 w6:=dW iB (hb6.mono sI)
    have X6:=CC5.out w6 B6;have Z6:=ZZ5.out w6 B6;have y6:=Z6.c 6 _ rfl;have yl:=Z6.lt;have x0:=X6.c 0 _ rfl;have x1:=X6.c 1 _ rfl;have x2:=X6.c 2 _ rfl;have x3:=X6.c 3 _ rfl;have x4:=X6.c 4 _ rfl;have xl:=X6.lt
    clear X6 Z6
    refine hK.out _ _ (by(try dsimp only);go_keep) (fun hHeld=> ?_)
    clear hK K
    try simp only[Act.put,pA,pZ,pS]
    refine wpAnyH_ready (rs:=[8]) kR sI ?_
    refine aY (iH rfl) (fun K hK=> ?_) bC
    go_simp
    refine hK.out _ _ (by(try dsimp only);go_keep) (fun hHeld=> ?_)
    clear hK K
    try simp only[Act.put,pA,pZ,pS]
    refine wpAnyH_ready (rs:=[9]) kR sI ?_
    refine aY (iH rfl) (fun K hK=> ?_) bC
    refine mJ (base:=w.heap.size+2) (v:=.slice qo i ko) (us:=us) (ms:=[.slice q6 D.length k6]) elRow rf (.tmp 34) (.tmp 38) rf rf 1 rf rfl (OO5.out _ (by repeat(first|exact Keep.of B6|refine Keep.alloc ?_ _|refine Keep.drew ?_|refine Keep.drewN ?_ _|refine Keep.setCell ?_ (.inr (by first|omega|(simp;omega)|(simp;done))) _))) (by refine xQ ?_;(try simp only[eO]);rw[aK _ _ _ _ (by first|omega|(simp;omega)|(simp;done))];rfl) (by intro x hx;simp at hx;subst hx;rfl) (by have:=UL.out;simp;omega) (by have:=B6.size;simp at*;omega) ?_
    intro qo' ko' w7 hown7 hg7 ho7
    have k7:Keep (iF (.slice qo i ko)) w6 w7:=(show Keep (iF (.slice qo i ko)) w6 _ from(by repeat(first|exact Keep.refl _ _|refine Keep.alloc ?_ _|refine Keep.drew ?_|refine Keep.drewN ?_ _|refine Keep.setCell ?_ (.inr (by first|omega|(simp;omega)|(simp;done))) _))).then (jh hg7)
    have X7:=(CC5.out w6 B6).keep k7 (HOW6.out _ om);have Z7:=(ZZ5.out w6 B6).keep k7 (HOW6.out _ om);have t0:=X7.c 0 _ rfl;have t1:=X7.c 1 _ rfl;have t2:=X7.c 2 _ rfl;have t3:=X7.c 3 _ rfl;have t4:=X7.c 4 _ rfl;have t6:=Z7.c 6 _ rfl;have f6:=Z7.f 6 sI;have tl:=Z7.lt
    clear X7 Z7
    refine hK.out _ _ (by(try dsimp only);go_keep) (fun hHeld=> ?_)
    clear hK K
    try simp only[Act.put,pA,pZ,pS]
    refine ctk (i:=10) (v:= ?_) rfl (fun _ _ _ h=>h) (Or.inl ⟨rf,?_⟩) ?_
    rotate_left
    ·(intro w hSw;(try dsimp only at hSw);go_simp<;>with_reducible rfl)
    try simp only[Act.put,pA,pZ,pS]
    refine ctk (i:=11) (v:= ?_) rfl (fun _ _ _ h=>h) (Or.inl ⟨rf,?_⟩) ?_
    rotate_left
    ·(intro w hSw;(try dsimp only at hSw);go_simp<;>with_reducible rfl)
    try simp only[Act.put,pA,pZ,pS]
    refine wpAnyH_done kR ?_ _
    simp only[nR,aS,bq]
    go_wp2_with fail
    all_goals
     have e7:(us++[Value.slice q6 D.length k6]).length=i+1:=by simp[UL.out]
     have e7':us.length+1=i+1:=by rw[UL.out]
     rw[e7] at hown7 ho7
     obtain⟨w8,hw8⟩: ∃w8,w8=w7.setCell ⟨w.heap.size+1,6,none⟩ (.slice qo' (i+1) ko'):=⟨_,rfl⟩
     have hge: ∀g∈iF (Value.slice q6 D.length k6),w5.heap.size≤g:=fun g hg=>by have:=(iN hown6 hg).1;simpa using this
     have hr6: ∀X:List Nat,(∀x∈X,x<w5.heap.size)→jT X w6 (.slice q6 D.length k6) (ints D):=fun X hX=>lN (by rw[iV];exact hown6) (fun x hx g hg=>by have:=hge g (kI.2 hg);have:=hX x hx;omega)
     have hRX: ∀y∈rX Y (w.heap.size+1) (.slice qn' (i+1) kn') (.slice qo i ko) (M++[m]),y<w5.heap.size:=fun y hy=>by
      rcases jM.1 hy with rfl|q|q|q|q
      ·omega
      ·exact(iN HR5.out.on q).2
      ·exact(iN HR5.out.oo q).2
      ·exact(HR5.out.lm y q).2
      ·have:=HY.out y q;omega
     have ND:=RSt.order (w5:=w8) (vo':=.slice qo' (i+1) ko') (D:=D) HR5.out B6 w5l (hr6 [] (fun x hx=>by cases hx)) hge (hr6 _ hRX) (show Keep [] w6 _ from(by repeat(first|exact Keep.refl _ _|refine Keep.alloc ?_ _|refine Keep.drew ?_|refine Keep.drewN ?_ _|refine Keep.setCell ?_ (.inr (by first|omega|(simp;omega)|(simp;done))) _))) hg7 ho7 (by rw[UL.out];exact hown7) hw8
     have eT:O.take i++[D]=O.take (i+1):=by rw[bH,HDD.out];rfl
     rw[eT] at ND
     have HR8:=ah ND.1
     have K8:=ND.2
     have B8:Below w.heap.size w w8:=HB5.out.trans (K8.below om (fun s hs=>by
      rcases aC.1 hs with r|r
      ·omega
      ·have:=(iN HR5.out.oo r).1;omega))
     have HC8:=ah (HC5.out.keep K8 (fun hs=>by
      rcases aC.1 hs with r|r
      ·omega
      ·have:=(iN HR5.out.oo r).1;omega))
     have w8l:w.heap.size+2≤w8.heap.size:=by have:=K8.size;omega
     have HLE:Hid ((M++[m]).length=i+1∧(us++[Value.slice q6 D.length k6]).length=i+1):=⟨by simp[ML.out],e7⟩
     simp only[e7']
     rw[←hw8]
     clear ND K8 hr6 hge hRX eT hown6 hown7 ho7 hg7 k7 t0 t1 t2 t3 t4 t6 f6 tl x0 x1 x2 x3 x4 xl y6 yl s0 s1 s2 s3 s4 sl z6' zl' hw8 e7 e7' hb6
     go_wp2
     go_roundw
     case rel=>exact⟨i+1,qn',qo',kn',ko',M++[m],us++[Value.slice q6 D.length k6],om,by go_num,HLE,HR8,HC8,B8,w8l⟩
     case measure=>simp[intOf];omega
  ·obtain rfl:i=n:=by omega
   have a0:=HC.out.c 0 _ rfl;have al:=HC.out.lt
   have FIN:Hid (Co Y mn lw hi O L w (.returned (.pointer (some ⟨w.heap.size+1,0,none⟩))) wr):=by
    have hst:=HR.out
    have hlen:=HLEN.out
    have hLi:L.length=i:=by rw[HLN.out,EN.out]
    have hi0:0<i:=om
    have hOt:O.take i=O:=by rw[←hLi,←HO.out.1,bF]
    rw[hOt] at hst
    obtain⟨rest,hrow,_,_,_,_,_⟩: ∃gN,qn=some ⟨gN,0,none⟩∧True∧True∧True∧True∧True:=by
     rcases hst.on.2 with⟨e,_⟩|⟨g,cap',cur,e,_⟩
     ·injection e with _ e2 _;omega
     ·injection e with e1 _ _
      exact⟨g,e1,trivial,trivial,trivial,trivial,trivial⟩
    subst hrow
    obtain⟨kk,hkn,hkm2⟩: ∃kk:Unit,i≤kn∧kn≤maxLen:=by
     rcases hst.on.2 with⟨e,_⟩|⟨g,cap',cur,e,_,_,h2,h3,_⟩
     ·injection e with e1 _ _;cases e1
     ·injection e with _ _ e3
      subst e3
      exact⟨(),by rw[←hlen.1];exact h2,h3⟩
    have hg1:rest∈iF (.slice (some ⟨rest,0,none⟩) i kn):=by simp[iF,Value.ownBlock]
    have hgl:=iN hst.on hg1
    have hz:=hst.z.lt
    have hsub: ∀y∈(w.heap.size+1)::rest::(M++Y),y∈rX Y (w.heap.size+1) (.slice (some ⟨rest,0,none⟩) i kn) (.slice qo i ko) M:=fun y hy=>by
     rcases aC.1 hy with rfl|hy
     ·exact jM.2 (.inl rfl)
     rcases aC.1 hy with rfl|hy
     ·exact jM.2 (.inr (.inl hg1))
     rcases aG.1 hy with hy|hy
     ·exact jM.2 (.inr (.inr (.inr (.inl hy))))
     ·exact jM.2 (.inr (.inr (.inr (.inr hy))))
    have hno: ∀x∈(w.heap.size+1)::rest::(M++Y),∀g,(Value.slice qo i ko).ownBlock=some g→x≠g:=fun x hx g hg e=>by
     subst e
     have hg':=kI.2 hg
     rcases aC.1 hx with rfl|hx
     ·have:=(iN hst.oo hg').1;omega
     rcases aC.1 hx with rfl|hx
     ·exact hst.ne _ hg1 hg'
     rcases aG.1 hx with hx|hx
     ·exact(hst.nm.2 _ hx).2.2 hg'
     ·have:=(iN hst.oo hg').1;have:=HY.out _ hx;omega
    have hnl:iy wr rest (lX M):=EJ (n:=M.length) (cap:=kn) (by rw[hlen.1];have:=hst.on;rwa [hlen.1] at this)
    refine⟨(w.heap.size+1)::rest::(M++Y),M,w.heap.size+1,rest,rfl,⟨⟨.slice p i cap,.slice q i k,kn,ko,qo,?_,by rw[hLi];exact hkn,hkm2,?_⟩,hnl,by rw[hlen.1,hLi],fun j m y hm hy=> ?_,HI.out,⟨sI,sI⟩,⟨om,fun q=>(hst.nm.2 _ q).1 rfl,fun q=>(hst.nm.2 _ q).2.1 hg1,hst.nm.1⟩,HO.out,⟨c6,c7,c8,hhi⟩⟩,fun x hx=> ?_,fun y hy=>by simp[hy],⟨fun q=>by have:=HY.out _ q;omega,fun q=>by have:=HY.out _ q;omega,fun m hm q=>by have:=HY.out _ q;have:=hst.lm m hm;omega⟩,hbel⟩
    ·rw[hLi];exact hst.z
    ·rw[hLi]
     have hoo:=hst.oo
     refine⟨us,by rw[hlen.2,HO.out.1,hLi],?_,fun j u xs hu hxs=>(hst.row j u xs hu hxs).sub hsub⟩
     have h2:=lN (X:=(w.heap.size+1)::rest::(M++Y)) hoo hno
     exact h2
    ·have hyx:P[j]?=some y.n:=by rw[←HMM.out,gJ,hy];rfl
     obtain⟨v,hb⟩:=hst.bud j m y.n hm hyx
     obtain⟨f1,f2⟩:=HF.out y (aB hy)
     rw[f1,f2]
     exact⟨v,_,hb.sub (by simp[aB hm]) hsub⟩
    ·rcases aC.1 hx with rfl|hx
     ·exact⟨.inr om,om⟩
     rcases aC.1 hx with rfl|hx
     ·exact⟨.inr om,om⟩
     rcases aG.1 hx with hx|hx
     ·have:=hst.lm _ hx;exact⟨.inr om,om⟩
     ·exact⟨.inl hx,by have:=HY.out _ hx;have:=hbel.size;omega⟩
   go_wp2
   go_ret
   exact FIN.out
end
section
open Go.RowKit Go.Maps
attribute [local go_sem ↓] aW aX
section
variable {X Y S M M' F G:List Nat} {B:Nat} {w w' w0:World} {ev:Nat→Addr} {pd pc pz gh pdm ghm pcm pm gN e:Nat} {mn lw hi:Int} {O:List (List Int)} {v v' vp vp':Value} {A A':SA} {V V':HV} {U U':List Value} {d d' m:De} {c c':Ca} {L:List Nd}
theorem rdnew_ok (pc:Nat) (n:Nat) (w:World) (n1:1≤n) (n4:n≤4):
 Calls Tryz.prog 36 #[.pointer (some ⟨pc,0,none⟩),.int .i64 n] w fun r w'=>r= .returned (.pointer (some ⟨w.heap.size+1,0,none⟩))∧w'=(w.alloc (.cells (iX (List.replicate n vW)).toArray 251)).alloc (.cells #[.pointer (some ⟨pc,0,none⟩),.slice (some ⟨w.heap.size,0,none⟩) n n,.slice none 0 0] 93):=by
 have h:n=1∨n=2∨n=3∨n=4:=om
 have em:madeCells (Value.agg #[.slice none 0 0,.slice none 0 0]).cells (n*2)=(iX (List.replicate n vW)).toArray:=by rcases h with rfl|rfl|rfl|rfl<;>kernel_rfl
 have MK: ∀W:World,(Instr.makeSlice 90 (.int .i64 (n:Nat)) (.int .i64 (n:Nat))).run Tryz.prog W= .ok (.slice (some ⟨W.heap.size,0,none⟩) n n) (W.alloc (.cells (iX (List.replicate n vW)).toArray 251)):=fun W=>by
  obtain⟨i0,hi0,hz0,hzs,hzb⟩:=info_parts (P:=Tryz.prog) (e:=251) (z:=.agg #[.slice none 0 0,.slice none 0 0]) (size:=2) (bytes:=48) kR
  have:=run_make (P:=Tryz.prog) W 90 251 i0 _ Tryz.underlying90 hi0 hz0 .i64 .i64 (n:Nat) (n:Nat) om (bZ _) (by rw[hzb];omega) om
  rw[this,hzs,←em]
  simp only[bJ]
 rcases h with rfl|rfl|rfl|rfl
 ·have MK':(Instr.makeSlice 90 (.int .i64 1) (.int .i64 1)).run Tryz.prog w= .ok (.slice (some ⟨w.heap.size,0,none⟩) 1 1) (w.alloc (.cells (iX (List.replicate 1 vW)).toArray 251)):=MK w
  clear MK em
  go_enter Tryz.func36,Tryz.ntmps36
  go_wp2
  go_ret
  exact⟨rfl,rfl⟩
 ·have MK':(Instr.makeSlice 90 (.int .i64 2) (.int .i64 2)).run Tryz.prog w= .ok (.slice (some ⟨w.heap.size,0,none⟩) 2 2) (w.alloc (.cells (iX (List.replicate 2 vW)).toArray 251)):=MK w
  clear MK em
  go_enter Tryz.func36,Tryz.ntmps36
  go_wp2
  go_ret
  exact⟨rfl,rfl⟩
 ·have MK':(Instr.makeSlice 90 (.int .i64 3) (.int .i64 3)).run Tryz.prog w= .ok (.slice (some ⟨w.heap.size,0,none⟩) 3 3) (w.alloc (.cells (iX (List.replicate 3 vW)).toArray 251)):=MK w
  clear MK em
  go_enter Tryz.func36,Tryz.ntmps36
  go_wp2
  go_ret
  exact⟨rfl,rfl⟩
 ·have MK':(Instr.makeSlice 90 (.int .i64 4) (.int .i64 4)).run Tryz.prog w= .ok (.slice (some ⟨w.heap.size,0,none⟩) 4 4) (w.alloc (.cells (iX (List.replicate 4 vW)).toArray 251)):=MK w
  clear MK em
  go_enter Tryz.func36,Tryz.ntmps36
  go_wp2
  go_ret
  exact⟨rfl,rfl⟩
theorem RD.start (hrz:RZ X w pm gN mn lw hi O M L) (hX: ∀x∈X,x<w.heap.size) (n:Nat)
 (hw':w'=(((w.alloc (.cells #[.pointer (some ⟨pm,0,none⟩),.int .i64 e,.slice none 0 0] 47)).alloc (.cells (iX (List.replicate n vW)).toArray 251)).alloc (.cells #[.pointer (some ⟨w.heap.size,0,none⟩),.slice (some ⟨w.heap.size+1,0,none⟩) n n,.slice none 0 0] 93))):
 RD ((w.heap.size+2)::(w.heap.size+1)::w.heap.size::X) w' (w.heap.size+2) (w.heap.size+1) w.heap.size pm gN e mn lw hi O M (.slice none 0 0) [] (List.replicate n vW) (.slice none 0 0) [] ⟨⟨L,[]⟩,List.replicate n ([],[]),[]⟩:=by
 have b:Below w.heap.size w w':=by rw[hw'];exact iB
 have hrc:nK w.heap.size []=[w.heap.size]:=rfl
 have lpm:pm<w.heap.size:=by obtain⟨vP,vN,kn,ko,qo,q1,_⟩:=hrz.z;exact q1.lt
 have lgN:=hrz.nodes.lt
 have hr: ∀y∈rcs w.heap.size pm gN [] M,y≤w.heap.size:=fun y hy=>by
  rcases aG.1 hy with q|q
  ·rw[hrc] at q;simp at q;omega
  ·rcases aC.1 q with rfl|q
   ·omega
   ·rcases aC.1 q with rfl|q
    ·omega
    ·have:=hrz.lt q;omega
 refine⟨⟨(hrz.more (fun x hx=>ak _ (ak _ (ak _ hx))) (fun y hy=> ?_)).below b,⟨?_,jT.nil _ _,rfl,fun i p s hp=>by simp at hp,fun y hy=> ?_,?_,.inl rfl⟩,fun y hy=> ?_⟩,⟨?_,?_,sI,fun i p g hp hg=> ?_,jT.nil _ _,rfl,fun i u m hu=>by simp at hu,⟨sI,sI⟩,sI⟩,fun q=>by have:=hr _ q;omega,fun q=>by have:=hr _ q;omega⟩
 ·simp at hy
  rcases hy with rfl|rfl|rfl|q
  ·exact .inr om
  ·exact .inr om
  ·exact .inr om
  ·exact .inl q
 ·rw[hw']
  exact((iy.mk_ w [.pointer (some ⟨pm,0,none⟩),.int .i64 e,.slice none 0 0] 47 rfl).past _).past _
 ·rw[hrc] at hy;simp at hy;subst hy;simp
 ·rw[hrc];simp
 ·rw[hrc] at hy;simp at hy;subst hy
  exact⟨om,om,fun q=>by have:=hrz.lt q;omega⟩
 ·rw[hw']
  simp only[List.length_replicate]
  exact iy.mk_ _ [.pointer (some ⟨w.heap.size,0,none⟩),.slice (some ⟨w.heap.size+1,0,none⟩) n n,.slice none 0 0] 93 sI
 ·rw[hw']
  exact(iy.mk_ _ (iX (List.replicate n vW)) 251 sI).past _
 ·rw[eG] at hp hg
  split at hp
  ·rw[if_pos aM] at hg
   obtain rfl:=aH hp
   obtain rfl:=aH hg
   exact⟨j5.nil _ _,j5.nil _ _⟩
  ·cases hp
theorem Hf {U:List Value} {A:SA} {V:HV} {v vp:Value} {B:Nat} (h:CD B w X pd pc pz gh mn lw hi O e v A V vp U d):
 Calls Tryz.prog 62 #[.pointer (some ⟨pd,0,none⟩)] w fun r w'=>r= .returned (.pointer (some ⟨pc,0,none⟩))∧w'=w:=by
 have c0:=h.de.d.c 0 _ rfl;have cl:=h.de.d.lt
 clear h
 go_enter Tryz.func62,Tryz.ntmps62
 go_wp2
 go_ret
 exact⟨rfl,rfl⟩
theorem DZX.start {w3 w8 w12 w15:World} {X0:List Nat} {nw:Nat} (hs:DpS w3.heap.size w3 pd pc pz gh mn lw hi O e X0 [] ⟨⟨L,[]⟩,List.replicate nw ([],[]),[]⟩ w8) (b12:Below w8.heap.size w8 w12) (hrz:RZ X w12 pm gN mn lw hi O M L)
 (h1: ∀x∈X,(x∈X0∨w8.heap.size≤x)∧x<w12.heap.size) (h2: ∀y∈X0,y∈X) (h3:pm∉X0) (h4:gN∉X0) (h5: ∀m∈M,m∉X0)
 (hw':w15=(((w12.alloc (.cells #[.pointer (some ⟨pm,0,none⟩),.int .i64 e,.slice none 0 0] 47)).alloc (.cells (iX (List.replicate nw vW)).toArray 251)).alloc (.cells #[.pointer (some ⟨w12.heap.size,0,none⟩),.slice (some ⟨w12.heap.size+1,0,none⟩) nw nw,.slice none 0 0] 93))):
 DZX w3 ((w12.heap.size+2)::(w12.heap.size+1)::w12.heap.size::X) [] pd pc pz gh (w12.heap.size+2) (w12.heap.size+1) w12.heap.size pm gN e mn lw hi O ⟨⟨L,[]⟩,List.replicate nw ([],[]),[]⟩ ⟨⟨L,[]⟩,List.replicate nw ([],[]),[]⟩ w15:=by
 have r:=RD.start (e:=e) hrz (fun x hx=>(h1 x hx).2) nw hw'
 have b15:Below w12.heap.size w12 w15:=by rw[hw'];exact iB
 have s15:w15.heap.size=w12.heap.size+3:=by rw[hw'];simp
 have z12:=b12.size
 refine⟨M,.slice none 0 0,[],List.replicate nw vW,.slice none 0 0,[],hs.addZ (S:=[]) hs.bel.size (Keep.of (b12.trans (b15.mono z12))) (fun s q=>by cases q) (fun x q=>ak _ (ak _ (ak _ (h2 x q)))) (fun y q=> ?_) (fun f q=>⟨.inr ?_,?_⟩),r,fun f q=>by cases q⟩
 ·simp at q
  rcases q with rfl|rfl|rfl|q
  ·exact⟨.inr om,om⟩
  ·exact⟨.inr om,om⟩
  ·exact⟨.inr om,om⟩
  ·exact⟨(h1 y q).1,by have:=(h1 y q).2;omega⟩
 ·rw[dF] at q
  have nw': ∀x∈X,x∉X0→w8.heap.size≤x:=fun x hx hn=>(h1 x hx).1.resolve_left hn
  have hrc:nK w12.heap.size []=[w12.heap.size]:=rfl
  rcases aC.1 q with rfl|q
  ·omega
  ·rcases aC.1 q with rfl|q
   ·omega
   ·rcases aG.1 q with q|q
    ·rw[hrc] at q;simp at q;omega
    ·rcases aC.1 q with rfl|q
     ·exact nw' _ hrz.mem.1 h3
     ·rcases aC.1 q with rfl|q
      ·exact nw' _ hrz.mem.2 h4
      ·exact nw' _ (hrz.memM q) (h5 f q)
 ·rw[dF] at q
  exact r.mem f q
theorem DN (h:DZS w0 X F pd pc pz gh pdm ghm pcm pm gN e mn lw hi O M v A V vp U d d w):
 Calls Tryz.prog 46 #[.pointer (some ⟨pd,0,none⟩),.pointer (some ⟨pdm,0,none⟩)] w fun r w'=>r= .returned (.int .i64 1)∧Below w.heap.size w w':=by
 have HI:=h.s.inv
 obtain⟨v1,A1,V1,vp1,U1,q,hf⟩:=h.s.cd
 have HQ:=ah q
 have H1:=ah (Cj q HI)
 have H2:Hid (∀W,Below w.heap.size w W→Calls Tryz.prog 154 #[.pointer (some ⟨pdm,0,none⟩)] W fun r w'=>r= .returned (.tuple #[.int .i64 (lG d.H),.int .i64 ((d.P.length*4:Nat):Int)])∧Below W.heap.size W w'):=fun W b=>rheld_ok (h.r.below b) HI
 have H3:Hid (∀W,Below w.heap.size w W→Calls Tryz.prog 62 #[.pointer (some ⟨pd,0,none⟩)] W fun r w'=>r= .returned (.pointer (some ⟨pc,0,none⟩))∧w'=W):=fun W b=>Hf (q.below b)
 have H4:Hid (∀W,Below w.heap.size w W→Calls Tryz.prog 32 #[.pointer (some ⟨pc,0,none⟩),.pointer (some ⟨pcm,0,none⟩)] W fun r w'=>r= .returned (.int .i64 1)∧Below W.heap.size W w'):=fun W b=>Dn (q.below b).cs (h.r.below b).c HI.c
 have c0:=h.r.b.d.c 0 _ rfl;have cl:=h.r.b.d.lt
 obtain⟨a,ha⟩: ∃a,a=lG d.H:=⟨_,rfl⟩
 obtain⟨b,hb⟩: ∃b,b=d.P.length*4:=⟨_,rfl⟩
 rw[←ha,←hb] at H1 H2
 clear h HI q hf ha hb
 go_enter Tryz.func46,Tryz.ntmps46
 go_wp2_with fail
 refine H1.out.mono ?_
 rintro r w1 ⟨rfl,hb1⟩
 have B1:=ah hb1
 clear H1 hb1
 go_wp2_with fail
 refine(H2.out _ B1.out).mono ?_
 rintro r w2 ⟨rfl,hb2⟩
 have B2:=ah (B1.out.trans (hb2.mono B1.out.size))
 clear H2 hb2
 go_wp2_with fail
 refine(H3.out _ B2.out).mono ?_
 rintro r w3 ⟨rfl,rfl⟩
 have c0':=(B2.out.cell (p:=⟨pdm,0,none⟩) cl).trans c0
 have cl':pdm<w3.heap.size:=by have:=B2.out.size;omega
 clear H3
 go_wp2_with fail
 refine(H4.out _ B2.out).mono ?_
 rintro r w4 ⟨rfl,hb4⟩
 go_wp2
 go_ret
 exact⟨rfl,B2.out.trans (hb4.mono B2.out.size)⟩
end
end
section
structure MoI (e:Nat) (l:List Ob) (d:De):Prop where
 nd:l.Nodup
 out: ∀x∈l,x∉held d
 iff: ∀x,x∈jQ e d.c.C↔x∈l∨x∈held d
section
variable {mn:Int} {O:List (List Int)} {e:Nat} {d:De} {k v:Int} {u:Bool} {l:List Ob} {o:Ob}
theorem Bb:(takeD mn O e d k v u).1.H.length=d.H.length:=by
 cases hh:jI d k with
 |none=>rw[mQ hh]
 |some g=>
  cases hl:(je g d.P).1.1.getLast? with
  |some o=>rw[jD hh hl];simp
  |none=>rw[jW hh hl]
theorem Bc:(iU e d k o).1.H.length=d.H.length:=by
 unfold iU
 split
 ·rfl
 ·split
  ·simp
  ·rfl
def NoH (n:Nat) (d:De):Prop:=d.P=[]∧∀i,i<n→i<d.H.length→d.H[i]?=some ([],[])
end
end
section
open Go.RowKit Go.Maps
theorem own_srcs {base:Nat} {w:World} {q:Option Addr} {k:Nat} {l:List Ob} (h:w.ownsRow base 49 2 (.slice q l.length k) l.length (jc l)) {i:Nat} {o:Ob} (ho:l[i]?=some o):
 ∃g,q=some ⟨g,0,none⟩∧l.length≤k∧k≤maxLen∧g<w.heap.size∧base≤g∧w.cell? ⟨g,i*2,none⟩=some (.int .i64 o.1)∧w.cell? ⟨g,i*2+1,none⟩=some (.int .i64 o.2)∧rY w (some ⟨g,0,none⟩) (jc (l.take i))∧rY w (some ⟨g,(i+1)*2,none⟩) (jc (l.drop (i+1))):=by
 obtain⟨g,e,h1,h2,h3,h4,h5⟩:=AY h ho
 subst e
 have il:=(aj.1 ho).1
 refine⟨g,rfl,h1,h2,h3,(h.lt g rfl).1,h4,h5,.inr ⟨_,rfl,fun j u hj=> ?_⟩,.inr ⟨_,rfl,fun j u hj=> ?_⟩⟩
 ·have e:jc l=jc (l.take i)++jc (l.drop i):=by rw[←kE,bP]
  have jl:=(aj.1 hj).1
  rw[addr_add,bO,h.cellAt j (by rw[j6,aQ] at jl;omega),e,bE jl]
  exact hj
 ·have e:jc l=jc (l.take (i+1))++jc (l.drop (i+1)):=by rw[←kE,bP]
  have jl:=(aj.1 hj).1
  have tl:(jc (l.take (i+1))).length=(i+1)*2:=by rw[j6,aQ];omega
  rw[addr_add,h.cellAt ((i+1)*2+j) (by rw[j6,cB] at jl;omega),e,bK om,tl,Nat.add_sub_cancel_left]
  exact hj
section
variable {X Y S F:List Nat} {B:Nat} {ev:Nat→Addr} {w w' w0:World} {pd pc pz gh e:Nat} {mn lw hi:Int} {O:List (List Int)} {v vp:Value} {A:SA} {d d':De} {c:Ca}
theorem dp_drain (k:Int) (hE:tJ B ev w0) (h:DpS B w0 pd pc pz gh mn lw hi O e X F d w):
 Calls Tryz.prog 41 #[.pointer (some ⟨pd,0,none⟩),.int .i64 k] w fun r w'=>r= .returned (.tuple #[.int .i64 (jg e d k).2.2,jB ev (jg e d k).2.1])∧Keep (off X F) w w'∧DpS B w0 pd pc pz gh mn lw hi O e X F (jg e d k).1 w':=by
 have hB:=bN hE.size h.bel.size
 obtain⟨v,A,V,vp,U,q,hf⟩:=h.cd
 exact(Dw k ((hE.below h.bel).z) q hf h.inv).mono fun r w' ⟨hr,h1,h2⟩=>⟨hr,h2,h1,Db h.inv,h.bel.trans (h2.below hB fun s hs=>(q.lim s (iQ.1 hs).1).1)⟩
theorem dp_empty (hE:tJ B ev w0) (h:DpS B w0 pd pc pz gh mn lw hi O e X F d w):
 Calls Tryz.prog 44 #[.pointer (some ⟨pd,0,none⟩)] w fun r w'=>r= .returned (.int .i64 (kL e d).2)∧Keep (off X F) w w'∧DpS B w0 pd pc pz gh mn lw hi O e X F (kL e d).1 w':=by
 have hB:=bN hE.size h.bel.size
 obtain⟨v,A,V,vp,U,q,hf⟩:=h.cd
 exact(GI hB q hf h.inv).mono fun r w' ⟨hr,h1,h2⟩=>⟨hr,h2,h1,Dc h.inv,h.bel.trans (h2.below hB fun s hs=>(q.lim s (iQ.1 hs).1).1)⟩
end
end
section
open Go.RowKit Go.Maps
section
variable {X Y S M M' F G:List Nat} {w w' w0:World} {ev:Nat→Addr} {pd pc pz gh pdm ghm pcm pm gN e:Nat} {mn lw hi:Int} {O:List (List Int)} {v v' vp vp':Value} {A A':SA} {V V':HV} {U U':List Value} {d d' m:De}
theorem DZS.limX (h:DZS w0 X F pd pc pz gh pdm ghm pcm pm gN e mn lw hi O M v A V vp U d m w): ∀x∈X,x<w.heap.size:=fun x hx=>(h.s.lim x hx).2
theorem dz_rtake (k n:Int) (u:Bool) (hI:jY e m) (h:DZX w0 X F pd pc pz gh pdm ghm pcm pm gN e mn lw hi O d m w):
 Calls Tryz.prog 38 #[.pointer (some ⟨pdm,0,none⟩),.int .i64 k,.int .i64 n,.bool u] w (pQ w0 X F pd pc pz gh pdm ghm pcm pm gN e mn lw hi O d (takeD mn O e m k n u).1 w (.tuple #[obV (takeD mn O e m k n u).2.2,.int .i64 (takeD mn O e m k n u).2.1])):=by
 obtain⟨M,v,A,V,vp,U,q⟩:=h
 exact(Dr k n u q.r hI q.limX).mono fun r w' hp=>q.act hp
theorem dz_rgive (k:Int) (o:Ob) (hI:jY e m) (h:DZX w0 X F pd pc pz gh pdm ghm pcm pm gN e mn lw hi O d m w):
 Calls Tryz.prog 40 #[.pointer (some ⟨pdm,0,none⟩),.int .i64 k,.agg #[.int .i64 o.1,.int .i64 o.2]] w (pQ w0 X F pd pc pz gh pdm ghm pcm pm gN e mn lw hi O d (iU e m k o).1 w (.int .i64 (iU e m k o).2)):=by
 obtain⟨M,v,A,V,vp,U,q⟩:=h
 exact(DJ k o q.r hI q.limX).mono fun r w' hp=>q.act hp
theorem dz_drain (k:Int) (hE:tJ w0.heap.size ev w0) (h:DZX w0 X F pd pc pz gh pdm ghm pcm pm gN e mn lw hi O d m w):
 Calls Tryz.prog 41 #[.pointer (some ⟨pd,0,none⟩),.int .i64 k] w (pQ w0 X F pd pc pz gh pdm ghm pcm pm gN e mn lw hi O (jg e d k).1 m w (.tuple #[.int .i64 (jg e d k).2.2,jB ev (jg e d k).2.1])):=by
 obtain⟨M,v,A,V,vp,U,q⟩:=h
 exact(dp_drain k hE q.s).mono fun r w' ⟨hr,kk,h3⟩=>⟨hr,X,⟨M,v,A,V,vp,U,q.prog h3 kk (fun _ t=>.inl t) (fun _ t=>t)⟩,kk.mono q.offp,fun _ t=>.inl t,fun _ t=>t⟩
theorem Hg (k:Nat) (hI:jY e m) (hk:k<m.H.length) (h:DZX w0 X F pd pc pz gh pdm ghm pcm pm gN e mn lw hi O d m w):
 Calls Tryz.prog 43 #[.pointer (some ⟨pdm,0,none⟩),.int .i64 k] w (pQ w0 X F pd pc pz gh pdm ghm pcm pm gN e mn lw hi O d (jg e m k).1 w (.int .i64 (jg e m k).2.2)):=by
 obtain⟨M,v,A,V,vp,U,q⟩:=h
 exact(GU k q.r hI q.limX hk).mono fun r w' hp=>q.act hp
theorem dz_empty (hE:tJ w0.heap.size ev w0) (h:DZX w0 X F pd pc pz gh pdm ghm pcm pm gN e mn lw hi O d m w):
 Calls Tryz.prog 44 #[.pointer (some ⟨pd,0,none⟩)] w (pQ w0 X F pd pc pz gh pdm ghm pcm pm gN e mn lw hi O (kL e d).1 m w (.int .i64 (kL e d).2)):=by
 obtain⟨M,v,A,V,vp,U,q⟩:=h
 exact(dp_empty hE q.s).mono fun r w' ⟨hr,kk,h3⟩=>⟨hr,X,⟨M,v,A,V,vp,U,q.prog h3 kk (fun _ t=>.inl t) (fun _ t=>t)⟩,kk.mono q.offp,fun _ t=>.inl t,fun _ t=>t⟩
theorem Hl (hI:jY e m) (h:DZX w0 X F pd pc pz gh pdm ghm pcm pm gN e mn lw hi O d m w):
 Calls Tryz.prog 45 #[.pointer (some ⟨pdm,0,none⟩)] w (pQ w0 X F pd pc pz gh pdm ghm pcm pm gN e mn lw hi O d (kL e m).1 w (.int .i64 (kL e m).2)):=by
 obtain⟨M,v,A,V,vp,U,q⟩:=h
 exact(GX q.r hI q.limX).mono fun r w' hp=>q.act hp
theorem Ho (k:Int) (h:DZX w0 X F pd pc pz gh pdm ghm pcm pm gN e mn lw hi O d m w):
 Calls Tryz.prog 42 #[.pointer (some ⟨pdm,0,none⟩),.int .i64 k] w fun r w'=>r= .returned (.bool (decide (0≤k∧k<m.H.length)))∧w'=w:=by
 obtain⟨M,v,A,V,vp,U,q⟩:=h
 exact q.r.worker k
theorem DR (k n:Int) (u:Bool):(takeD mn O e d k n u).2.1≤10:=by
 cases hh:jI d k with
 |none=>rw[mQ hh];simp
 |some g=>
  cases hl:(je g d.P).1.1.getLast? with
  |some o=>rw[jD hh hl];simp
  |none=>rw[jW hh hl];exact Dp n u
theorem takeD_L (k n:Int) (u:Bool):(takeD mn O e d k n u).1.c.L.length=d.c.L.length:=by
 cases hh:jI d k with
 |none=>rw[mQ hh]
 |some g=>
  cases hl:(je g d.P).1.1.getLast? with
  |some o=>rw[jD hh hl]
  |none=>rw[jW hh hl];exact(wQ mn O e d.c n u).1.symm
theorem giveD_c (k:Int) (o:Ob):(iU e d k o).1.c=d.c:=by
 unfold iU
 split
 ·rfl
 ·split<;>rfl
theorem DT (k:Int) (o:Ob):(iU e d k o).2≤10:=by
 unfold iU
 split
 ·simp
 ·split<;>simp
theorem drainD_L (hI:jY e d) (k:Int):(jg e d k).1.c.L=d.c.L∧(jg e d k).1.H.length=d.H.length:=by
 unfold jg
 split
 ·exact⟨rfl,rfl⟩
 ·exact⟨(jL hI.c).2.1,sI⟩
theorem emptyD_L (hI:jY e d):(kL e d).1.c.L=d.c.L∧(kL e d).1.H.length=d.H.length:=⟨(jL hI.c).2.1,rfl⟩
theorem take_fit (hO:vV O d.c.L.length) (hI:jY e d) (k n:Int) (u:Bool) (h0:(takeD mn O e d k n u).2.1=0):lI (takeD mn O e d k n u).2.2.2:=by
 have hi:=rE (mn:=mn) (O:=O) (k:=k) (v:=n) (u:=u) hO hI
 have hm:(takeD mn O e d k n u).2.2∈jQ e (takeD mn O e d k n u).1.c.C:=by
  cases hh:jI d k with
  |none=>rw[mQ hh] at h0;simp at h0
  |some g=>
   cases hl:(je g d.P).1.1.getLast? with
   |some o=>
    have hc:=G7 (mn:=mn) (O:=O) (e:=e) (v:=n) (u:=u) hh hl
    rw[jD hh hl]
    exact hI.sub o (dh.1 (by have:=hc o;simp at this;omega))
   |none=>
    rw[jW hh hl] at h0 ⊢
    rcases xW (mn:=mn) (O:=O) hO hI.c n u with⟨t1,t2,t3⟩|⟨t1,t2⟩
    ·exact(t3 _).2 (.inl rfl)
    ·exact absurd h0 t1
 exact GQ hi.c hm
end
end
section
open Go.RowKit Go.ChangeShapes
structure yj where
 kind:ByteArray
 wk:Int
 node:Int
 num:Int
 urgent:Bool
 on:Int
 oa:Int
def yj.cells (x:yj):List Value:=[.string x.kind,.int .i64 x.wk,.int .i64 x.node,.int .i64 x.num,.bool x.urgent,.int .i64 x.on,.int .i64 x.oa]
def yj.fits (x:yj):Prop:=x.kind.size≤maxLen∧lI x.wk∧lI x.node∧lI x.num∧lI x.on∧lI x.oa
theorem Hq:Tryz.prog.cellsOf 81=7:=kR
def Bd (w:World) (v:Value) (xs:List yj):Prop:=RowG 7 yj.cells yj.fits w v xs
theorem DU {H:Type} {enc:TypeId×Value→H} {W:World} {base:Nat} {spare:Nat→Bool} {held:Bool} {fuel:Nat} {v:Value} {x:DataW H×List MemPlace}
 (h:DataW.trod enc Tryz.prog W base spare held fuel 73 [v]=some x): ∃xs,Bd W v xs:=by
 refine Ab Tryz.underlying73 Hq om (fun n cs y h1 h2=> ?_) h
 obtain⟨v0,v1,v2,v3,v4,v5,v6,rfl⟩:=len7 h1
 obtain⟨ys,k,_,_,_,hl,hf⟩:=gK Tryz.underlying81 h2
 obtain⟨y0,y1,y2,y3,y4,y5,rfl⟩:=len6 (hl.trans rfl)
 have g0:=hf 0 _ rfl
 simp at g0
 rw[show Tryz.prog.cellsOf 9=1 by kernel_rfl] at g0
 simp at g0
 have g1:=hf 1 _ rfl
 simp at g1
 rw[show Tryz.prog.cellsOf 3=1 by kernel_rfl] at g1
 simp at g1
 have g2:=hf 2 _ rfl
 simp at g2
 rw[show Tryz.prog.cellsOf 3=1 by kernel_rfl] at g2
 simp at g2
 have g3:=hf 3 _ rfl
 simp at g3
 rw[show Tryz.prog.cellsOf 3=1 by kernel_rfl] at g3
 simp at g3
 have g4:=hf 4 _ rfl
 simp at g4
 rw[show Tryz.prog.cellsOf 4=1 by kernel_rfl] at g4
 simp at g4
 have g5:=hf 5 _ rfl
 simp at g5
 rw[show Tryz.prog.cellsOf 49=2 by kernel_rfl] at g5
 simp at g5
 obtain⟨u0,e0,_,w0⟩:=DataW.trod_string Tryz.underlying9 g0
 simp at e0;subst e0
 obtain⟨u1,e1,_,w1⟩:=dS bg g1
 simp at e1;subst e1
 obtain⟨u2,e2,_,w2⟩:=dS bg g2
 simp at e2;subst e2
 obtain⟨u3,e3,_,w3⟩:=dS bg g3
 simp at e3;subst e3
 obtain⟨u4,e4,_⟩:=DataW.trod_bool fM g4
 simp at e4;subst e4
 obtain⟨ysf,kf,_,_,_,hlf,hff⟩:=gK Tryz.underlying49 g5
 obtain⟨yf0,yf1,rfl⟩:=len2 (hlf.trans rfl)
 have gf0:=hff 0 _ rfl
 simp at gf0
 rw[show Tryz.prog.cellsOf 3=1 by kernel_rfl] at gf0
 simp at gf0
 have gf1:=hff 1 _ rfl
 simp at gf1
 rw[show Tryz.prog.cellsOf 3=1 by kernel_rfl] at gf1
 simp at gf1
 obtain⟨u5,e5,_,w5⟩:=dS bg gf0
 simp at e5;subst e5
 obtain⟨u6,e6,_,w6⟩:=dS bg gf1
 simp at e6;subst e6
 exact⟨⟨u0,u1,u2,u3,u4,u5,u6⟩,rfl,w0,lQ w1,lQ w2,lQ w3,lQ w5,lQ w6⟩
end
end Go.Proofs.YtdcbhlcbiokbeaaGreatDoor
