/- Lemmas and contracts for the claim's last text: ZLaw, RZ, SB, SCS. -/
import Derived.Test.YtdcbhlcbiokbeaaGreatDoorSa01
import Derived.Test.YtdcbhlcbiokbeaaGreatDoorSa03
import Derived.Test.YtdcbhlcbiokbeaaGreatDoorSa06
import Derived.Test.YtdcbhlcbiokbeaaGreatDoorSa07
import Derived.Test.YtdcbhlcbiokbeaaGreatDoorSa08
import Derived.Test.YtdcbhlcbiokbeaaGreatDoorSa09
set_option linter.unusedSimpArgs false
set_option linter.unusedVariables false
set_option maxHeartbeats 16000000
set_option maxRecDepth 100000
namespace Go.Proofs.YtdcbhlcbiokbeaaGreatDoor
section
open Go.RowKit Go.Maps
theorem retInt {k:IntKind} {a b:Int} (h:a=b):Ending.returned (.int k a)= .returned (.int k b):=by rw[h]
def wQ (P:List Int) (N:List (List Int)):Bool:=decide (20<P.length)||decide (20<N.length)||N.any fun l=>decide (20<l.length)
theorem wideC_no {P:List Int} {N:List (List Int)} (h:wQ P N=false):P.length≤20∧N.length≤20∧∀(j:Nat) (xs:List Int),N[j]?=some xs→xs.length≤20:=by
 unfold wQ at h
 simp at h
 exact⟨om,om,fun j xs hj=>h.2 xs (aA hj)⟩
def pQ (P:List Int) (N:List (List Int)):Int:=if wQ P N=true then 1 else 0
theorem wide_any (vP vN:Value) (P:List Int) (N:List (List Int)) (mn lw hi:Int) (w:World) (h:Cfg [] w vP vN P N):
 Calls Tryz.prog 16 #[.agg #[vP,vN,.int .i64 mn,.int .i64 lw,.int .i64 hi]] w fun e w'=>e= .returned (.int .i64 (pQ P N))∧Below w.heap.size w w':=by
 obtain⟨p,cap,rfl,hcp,hmx,_⟩:=h.p.int
 obtain⟨q,k,rfl,hck,hkm,hcn⟩:=h.n.form
 have HCN:=ah hcn
 unfold maxLen at hmx hkm
 clear hcn h
 by_cases h1:20<P.length
 ·have e:pQ P N=1:=by unfold pQ wQ;simp[h1]
  rw[e]
  clear e
  go_enter Tryz.func16,Tryz.ntmps16
  go_wp2
  go_ret
  exact⟨rfl,gI⟩
 by_cases h2:20<N.length
 ·have e:pQ P N=1:=by unfold pQ wQ;simp[h2]
  rw[e]
  clear e
  go_enter Tryz.func16,Tryz.ntmps16
  go_wp2
  go_ret
  exact⟨rfl,gI⟩
 obtain⟨n,hn⟩: ∃n,n=N.length:=⟨_,rfl⟩
 have HN:=ah hn
 have L0:=ah (gH.mk_ w [.slice p P.length cap,.slice q N.length k,.int .i64 mn,.int .i64 lw,.int .i64 hi] 27 rfl)
 rw[←hn] at h2 hck L0 ⊢
 obtain⟨m,hm⟩: ∃m,m=P.length:=⟨_,rfl⟩
 have HM:=ah hm
 rw[←hm] at h1 hcp L0 ⊢
 clear hn hm
 go_enter Tryz.func16,Tryz.ntmps16
 go_wp2_with fail
 go_loopw [3] (fun iv wr=>∃i:Nat,i≤n∧iv= .int .i64 i∧Hid (∀l∈N.take i,l.length≤20)∧Below (w.alloc (.cells [.slice p m cap,.slice q n k,.int .i64 mn,.int .i64 lw,.int .i64 hi].toArray 27)).heap.size (w.alloc (.cells [.slice p m cap,.slice q n k,.int .i64 mn,.int .i64 lw,.int .i64 hi].toArray 27)) wr) (fun iv _=>n-(intOf iv).toNat)
 case atStart=>exact⟨0,aQ _,by go_num,(show∀l∈N.take 0,l.length≤20 from sI),aK _ _⟩
 case round=>
  obtain⟨i,hi',rfl,SM,hbel⟩:=hrel
  have M:=L0.out.go hbel
  have m1:=M.c 1 _ rfl;have ml:=M.lt
  have KR:Below w.heap.size w wr:=dA gI (hbel.mono sI)
  have zr:=hbel.size
  simp at zr
  by_cases hlt:i<n
  ·obtain⟨l,hl⟩: ∃l,N[i]?=some l:=⟨N[i]'(by rw[←HN.out];exact hlt),au _⟩
   obtain⟨g,off,u,rfl,_,hg,hc,hu⟩:=HCN.out i l hl
   obtain⟨pl,kl,rfl,hkl,hml,_⟩:=hu.int
   have r0:=(KR.cell (p:=⟨g,off+i,none⟩) hg).trans hc
   have gr:g<wr.heap.size:=om
   unfold maxLen at hml
   have HL:=ah hl
   clear hl hu hc M
   by_cases hw:20<l.length
   ·have e:pQ P N=1:=by
     unfold pQ wQ
     rw[if_pos]
     simp
     exact .inr ⟨l,aA HL.out,hw⟩
    have E:=ah e
    clear e
    go_wp2
    go_ret
    exact⟨retInt E.out.symm,KR⟩
   ·have SM2:=ah (lC SM.out HL.out (show l.length≤20 by omega))
    go_wp2
    go_roundw
    case rel=>exact⟨i+1,om,by go_num,SM2,hbel⟩
    case measure=>simp[intOf];omega
  ·have e:pQ P N=0:=by
    have hin:i=N.length:=by have:=HN.out;omega
    unfold pQ wQ
    rw[if_neg]
    simp
    refine⟨⟨by have:=HM.out;omega,by have:=HN.out;omega⟩,fun l hl=> ?_⟩
    exact SM.out l (by rw[hin,bg];exact hl)
   have E:=ah e
   clear e M
   go_wp2
   go_ret
   exact⟨retInt E.out.symm,KR⟩
theorem one_ok {X:List Nat} (n:Int) (w:World) (hX: ∀x∈X,x<w.heap.size):
 Calls Tryz.prog 108 #[.int .i64 n] w fun e w'=>∃vP vN,e= .returned (.agg #[vP,vN,.int .i64 0,.int .i64 0,.int .i64 0])∧Cfg X w' vP vN [n] [[0]]∧Below w.heap.size w w':=by
 obtain⟨b1,e1⟩: ∃b,b=w.heap.size+1:=⟨_,rfl⟩
 have F0:=(((gH.mk_ w [.slice (some ⟨w.heap.size+1,0,none⟩) 1 1,.slice (some ⟨w.heap.size+1+1+1,0,none⟩) 1 1,.int .i64 0,.int .i64 0,.int .i64 0] 36 rfl).past (.cells #[.int .i64 n] 3)).past (.cells #[.int .i64 0] 3)).past (.cells #[.slice (some ⟨w.heap.size+1+1,0,none⟩) 1 1] 22)
 have F1:=((gH.mk_ (w.alloc (.cells [.slice (some ⟨w.heap.size+1,0,none⟩) 1 1,.slice (some ⟨w.heap.size+1+1+1,0,none⟩) 1 1,.int .i64 0,.int .i64 0,.int .i64 0].toArray 36)) [.int .i64 n] 3 (b:=w.heap.size+1) sI).past (.cells #[.int .i64 0] 3)).past (.cells #[.slice (some ⟨w.heap.size+1+1,0,none⟩) 1 1] 22)
 have F2:=(gH.mk_ ((w.alloc (.cells [.slice (some ⟨w.heap.size+1,0,none⟩) 1 1,.slice (some ⟨w.heap.size+1+1+1,0,none⟩) 1 1,.int .i64 0,.int .i64 0,.int .i64 0].toArray 36)).alloc (.cells [.int .i64 n].toArray 3)) [.int .i64 0] 3 (b:=w.heap.size+1+1) sI).past (.cells #[.slice (some ⟨w.heap.size+1+1,0,none⟩) 1 1] 22)
 have F3:=gH.mk_ (((w.alloc (.cells [.slice (some ⟨w.heap.size+1,0,none⟩) 1 1,.slice (some ⟨w.heap.size+1+1+1,0,none⟩) 1 1,.int .i64 0,.int .i64 0,.int .i64 0].toArray 36)).alloc (.cells [.int .i64 n].toArray 3)).alloc (.cells [.int .i64 0].toArray 3)) [.slice (some ⟨w.heap.size+1+1,0,none⟩) 1 1] 22 (b:=w.heap.size+1+1+1) sI
 have H0:=ah F0;have H1:=ah F1;have H2:=ah F2;have H3:=ah F3
 clear F0 F1 F2 F3
 go_enter Tryz.func108,Tryz.ntmps108
 go_wp2
 have c0:=H0.out.c 0 _ rfl;have c1:=H0.out.c 1 _ rfl;have c2:=H0.out.c 2 _ rfl;have c3:=H0.out.c 3 _ rfl;have c4:=H0.out.c 4 _ rfl
 refine bodyPost_ret (v:=.agg #[.slice (some ⟨w.heap.size+1,0,none⟩) 1 1,.slice (some ⟨w.heap.size+1+1+1,0,none⟩) 1 1,.int .i64 0,.int .i64 0,.int .i64 0]) (by simp[results,Tryz.results108,go_sem]) rfl ⟨_,_,rfl,⟨?_,?_⟩,gI⟩
 ·exact uV (us:=ints [n]) (cap:=1) H1.out (fun q=>by have:=hX _ q;omega) (by simp[ints]) (by unfold maxLen;omega)
 ·refine⟨[.slice (some ⟨w.heap.size+1+1,0,none⟩) 1 1],rfl,uV (cap:=1) H3.out (fun q=>by have:=hX _ q;omega) sI (by unfold maxLen;omega),fun j u xs hu hxs=> ?_⟩
  cases j with
  |zero=>
   simp at hu hxs
   subst hu hxs
   exact uV (us:=ints [0]) (cap:=1) H2.out (fun q=>by have:=hX _ q;omega) (by simp[ints]) (by unfold maxLen;omega)
  |succ j=>simp at hu
theorem cfgE_one {n:Int} (h1:1≤n) (h2:n≤256):mq [n] [[0]] 0 0 0=0:=by
 have e1:o9 n=false:=by unfold o9;simp;omega
 unfold mq qE jM sqC xW qx wD zJ mP
 simp[e1,jG,jC]
theorem ordOne {D:List Int} (h:D.length=1∧∀x:Int,x∈D↔0≤x∧x<1):D=[0]:=by
 match D,h with
 |[x],h=>
  have:=(h.2 x).1 sI
  have e:x=0:=om
  rw[e]
theorem ordZ_one {O:List (List Int)} (h:vM O 1):O=[[0]]:=by
 match O,h with
 |[D],h=>
  have:=h.2 D sI
  have e:D=[0]:=ordOne (by simpa using this)
  rw[e]
def OneZ (n:Int) (w:World) (e:Ending) (w':World):Prop:=
 ∃(pz:Nat) (x:Nd),e= .returned (.tuple #[.pointer (some ⟨pz,0,none⟩),.nilIface])∧iH w.heap.size w' pz 0 0 0 [[0]] [x]∧w.heap.size≤pz∧x.n=n∧x.F=lX 0 n∧x.T=[]∧Below w.heap.size w w'
theorem oneZone {B:Nat} {ev:Nat→Addr} (vP vN:Value) (n:Int) (w:World) (hE:jV B ev w) (h:Cfg [] w vP vN [n] [[0]]) (n1:1≤n) (n2:n≤256):
 Calls Tryz.prog 18 #[.agg #[vP,vN,.int .i64 0,.int .i64 0,.int .i64 0]] w (OneZ n w):=
 (uj [] vP vN [n] [[0]] 0 0 0 w hE h (cfgE_one n1 n2) om).mono fun e w' hp=>by
   obtain⟨pz,O,L,h1,h2,h3,h4,h5,h6,h7⟩:=hp
   match L,h4 with
   |[x],h4=>
    have hx:x.n=n:=by simpa using h4
    obtain⟨q1,q2⟩:=h5 x sI
    have hO:=ordZ_one h2.ord
    subst hO
    exact⟨pz,x,h1,h2,h3,hx,by rw[←hx];exact q1,q2,h7⟩
theorem jV.up {B B':Nat} {ev:Nat→Addr} {w:World} (h:jV B ev w) (hb:B≤B') (hs:B'≤w.heap.size):jV B' ev w:=⟨hs,aG h.l2 hb,aG h.l3 hb,aG h.l4 hb,h.c2,h.c3,h.c4⟩
theorem za.up {B B':Nat} {ev:Nat→Addr} {w:World} (h:za B ev w) (hb:B≤B') (hs:B'≤w.heap.size):za B' ev w:=⟨h.c.up hb hs,aG h.l5 hb,h.c5⟩
theorem nI.up {B B':Nat} {ev:Nat→Addr} {w:World} (h:nI B ev w) (hb:B≤B') (hs:B'≤w.heap.size):nI B' ev w:=⟨h.d.up hb hs,aG h.l7 hb,h.c7⟩
theorem oW.z {B:Nat} {ev:Nat→Addr} {w:World} (h:oW B ev w):nI B ev w:=⟨h.d,h.glob 7 (by decide) (by decide),h.cell 7 (by decide) (by decide)⟩
end
section
open Go.RowKit
end
section
open Go.RowKit
attribute [local go_sem ↓] bA bB
def jR (M:List Nat):List Value:=M.map fun m=>.pointer (some ⟨m,0,none⟩)
theorem jf (M:List Nat):(jR M).length=M.length:=by simp[jR]
theorem jo {M:List Nat} {j m:Nat} (h:M[j]?=some m):(jR M)[j]?=some (.pointer (some ⟨m,0,none⟩)):=by simp[jR,h]
structure RZ (X:List Nat) (w:World) (pm gN:Nat) (mn lw hi:Int) (O:List (List Int)) (M:List Nat) (L:List Nd):Prop where
 z: ∃(vP vN:Value) (kn ko:Nat) (qo:Option Addr),gH w pm [vP,vN,.int .i64 mn,.int .i64 lw,.int .i64 hi,.slice (some ⟨gN,0,none⟩) L.length kn,.slice qo L.length ko]∧L.length≤kn∧kn≤maxLen∧rP X w (.slice qo L.length ko) O
 nodes:gH w gN (jR M)
 len:M.length=L.length
 bud: ∀(i m:Nat) (x:Nd),M[i]?=some m→L[i]?=some x→∃vF vT,kW X w m x.n vF vT x.F x.T
 inv: ∀x∈L,Inv x.n x.F x.T
 mem:pm∈X∧gN∈X
 ne:pm≠gN∧pm∉M∧gN∉M∧M.Nodup
 ord:vM O L.length
 m0:0≤mn∧mn≤lw∧lw≤hi∧hi≤9223372036854775807
theorem RZ.keep {X S:List Nat} {w w':World} {pm gN:Nat} {mn lw hi:Int} {O:List (List Int)} {M:List Nat} {L:List Nd} (h:RZ X w pm gN mn lw hi O M L) (k:Keep S w w') (hs: ∀s∈S,(s∈X∧s≠pm∧s≠gN∧s∉M)∨w.heap.size≤s):RZ X w' pm gN mn lw hi O M L:=by
 obtain⟨vP,vN,kn,ko,qo,h1,h2,h3,h4⟩:=h.z
 have np:pm∉S:=fun q=>by rcases hs pm q with r|r;(·exact r.2.1 rfl);(·have:=h1.lt;omega)
 have ng:gN∉S:=fun q=>by rcases hs gN q with r|r;(·exact r.2.2.1 rfl);(·have:=h.nodes.lt;omega)
 have hX: ∀s∈S,s∈X∨w.heap.size≤s:=fun s q=>(hs s q).imp (fun r=>r.1) id
 refine⟨⟨vP,vN,kn,ko,qo,h1.keep k np,h2,h3,h4.keep k hX⟩,h.nodes.keep k ng,h.len,fun i m x hm hx=> ?_,h.inv,h.mem,h.ne,h.ord,h.m0⟩
 obtain⟨vF,vT,hb⟩:=h.bud i m x hm hx
 exact⟨vF,vT,hb.keep k fun s q=>(hs s q).imp (fun r=>⟨r.1,fun e=>r.2.2.2 (e▸aA hm)⟩) id⟩
theorem RZ.below {X:List Nat} {w w':World} {pm gN:Nat} {mn lw hi:Int} {O:List (List Int)} {M:List Nat} {L:List Nd} (h:RZ X w pm gN mn lw hi O M L) (k:Below w.heap.size w w'):RZ X w' pm gN mn lw hi O M L:=h.keep (Keep.of (S:=[]) k) (fun s q=>by cases q)
theorem RZ.more {X Y:List Nat} {w:World} {pm gN:Nat} {mn lw hi:Int} {O:List (List Int)} {M:List Nat} {L:List Nd} (h:RZ X w pm gN mn lw hi O M L) (hX: ∀x∈X,x∈Y) (hY: ∀y∈Y,y∈X∨w.heap.size≤y):RZ Y w pm gN mn lw hi O M L:=by
 obtain⟨vP,vN,kn,ko,qo,h1,h2,h3,h4⟩:=h.z
 refine⟨⟨vP,vN,kn,ko,qo,h1,h2,h3,h4.more hY⟩,h.nodes,h.len,fun i m x hm hx=> ?_,h.inv,⟨hX _ h.mem.1,hX _ h.mem.2⟩,h.ne,h.ord,h.m0⟩
 obtain⟨vF,vT,hb⟩:=h.bud i m x hm hx
 exact⟨vF,vT,hb.more (hX _ hb.mem) hY⟩
theorem RZ.lt {X:List Nat} {w:World} {pm gN:Nat} {mn lw hi:Int} {O:List (List Int)} {M:List Nat} {L:List Nd} (h:RZ X w pm gN mn lw hi O M L) {m:Nat} (hm:m∈M):m<w.heap.size:=by
 obtain⟨i,hi⟩:=bV hm
 have hl:=(ak.1 hi).1
 obtain⟨vF,vT,hb⟩:=h.bud i m _ hi (au (show i<L.length by rw[←h.len];exact hl))
 exact hb.lt
theorem RZ.act {X:List Nat} {w w':World} {pm gN:Nat} {mn lw hi:Int} {O:List (List Int)} {M:List Nat} {L:List Nd} (h:RZ X w pm gN mn lw hi O M L) {i m:Nat} {x:Nd} (hm:M[i]?=some m) (hx:L[i]?=some x) {F T:List (Int×Int)} {vF vT:Value} (hb:kW X w' m x.n vF vT F T) (hI:Inv x.n F T) (k:Keep [m] w w'):
 RZ X w' pm gN mn lw hi O M (L.set i ⟨x.pb,x.bf,x.bt,x.n,F,T⟩):=by
 obtain⟨vP,vN,kn,ko,qo,h1,h2,h3,h4⟩:=h.z
 obtain⟨n1,n2,n3,n4⟩:=h.ne
 have hmM:=aA hm
 have mX:m∈X:=hb.mem
 have np:pm∉[m]:=fun q=>by simp at q;exact n2 (q▸hmM)
 have ng:gN∉[m]:=fun q=>by simp at q;exact n3 (q▸hmM)
 have hX: ∀s∈[m],s∈X∨w.heap.size≤s:=fun s q=>by simp at q;exact .inl (q▸mX)
 have il:=(ak.1 hx).1
 refine⟨⟨vP,vN,kn,ko,qo,by rw[bR];exact h1.keep k np,by rw[bR];exact h2,h3,by rw[bR];exact h4.keep k hX⟩,h.nodes.keep k ng,by rw[bR];exact h.len,fun j m' y hm' hy=> ?_,fun y hy=> ?_,h.mem,h.ne,by rw[bR];exact h.ord,h.m0⟩
 ·by_cases e:i=j
  ·subst e
   rw[hm] at hm';obtain rfl:=aI hm'
   rw[bD il] at hy;obtain rfl:=aI hy
   exact⟨vF,vT,hb⟩
  ·rw[d9 e] at hy
   obtain⟨vF',vT',hb'⟩:=h.bud j m' y hm' hy
   have hne:m'≠m:=fun q=>by
    subst q
    have a:=(ak.1 hm);have b:=(ak.1 hm')
    exact e ((List.getElem_inj n4).1 (a.2.trans b.2.symm))
   exact⟨vF',vT',hb'.keep k fun s q=>by simp at q;subst q;exact .inl ⟨mX,fun r=>hne r.symm⟩⟩
 ·rcases bS hy with q|q
  ·exact h.inv y q
  ·subst q;exact hI
theorem jg {X:List Nat} (pm gN:Nat) (mn lw hi:Int) (O:List (List Int)) (M:List Nat) (L:List Nd) (v:Int) (w:World) (h:RZ X w pm gN mn lw hi O M L):
 Calls Tryz.prog 30 #[.pointer (some ⟨pm,0,none⟩),.int .i64 v] w fun e w'=>e= .returned (.bool (decide (0≤v∧v<L.length)))∧Below w.heap.size w w':=by
 obtain⟨vP,vN,kn,ko,qo,h1,h2,h3,h4⟩:=h.z
 have c5:=h1.c 5 _ rfl;have cl:=h1.lt
 unfold maxLen at h3
 clear h h1 h4
 by_cases v0:0≤v
 ·by_cases v1:v<L.length
  ·rw[decide_eq_true (show 0≤v∧v<L.length from⟨v0,v1⟩)]
   have d0:decide (0≤v)=true:=decide_eq_true v0
   have d1:decide (v<(L.length:Int))=true:=decide_eq_true v1
   go_enter Tryz.func30,Tryz.ntmps30
   go_wp2
   go_ret
   exact⟨rfl,gI⟩
  ·rw[decide_eq_false (show¬(0≤v∧v<L.length) from fun q=>v1 q.2)]
   have d0:decide (0≤v)=true:=decide_eq_true v0
   have d1:decide (v<(L.length:Int))=false:=decide_eq_false v1
   go_enter Tryz.func30,Tryz.ntmps30
   go_wp2
   go_ret
   exact⟨rfl,gI⟩
 ·rw[decide_eq_false (show¬(0≤v∧v<L.length) from fun q=>v0 q.1)]
  have d0:decide (0≤v)=false:=decide_eq_false v0
  go_enter Tryz.func30,Tryz.ntmps30
  go_wp2
  go_ret
  exact⟨rfl,gI⟩
theorem rlack_ok {X:List Nat} (pm gN:Nat) (mn lw hi:Int) (O:List (List Int)) (M:List Nat) (L:List Nd) (v:Nat) (x:Nd) (w:World) (h:RZ X w pm gN mn lw hi O M L) (hx:L[v]?=some x):
 Calls Tryz.prog 144 #[.pointer (some ⟨pm,0,none⟩),.int .i64 v] w fun e w'=>e= .returned (.int .i64 (lackN hi x))∧Below w.heap.size w w':=by
 obtain⟨vP,vN,kn,ko,qo,h1,h2,h3,h4⟩:=h.z
 have c4:=h1.c 4 _ rfl;have c5:=h1.c 5 _ rfl;have cl:=h1.lt
 have hl:=(ak.1 hx).1
 obtain⟨m,hm⟩: ∃m,M[v]?=some m:=⟨M[v]'(by rw[h.len];exact hl),au _⟩
 have n0:=h.nodes.c v _ (jo hm);have nl:=h.nodes.lt
 obtain⟨vF,vT,hb⟩:=h.bud v m x hm hx
 have hI:=h.inv x (aA hx)
 have FP:=ah (fun(p:Behind w)=>kJ m x.n vF vT x.F x.T p.w' (hb.below p.h) hI)
 have s1:=hI.BP.1
 have s2:iD x.F≤256:=by have:=hI.BP.2;have:=hI.n2;omega
 obtain⟨m1,m2,m3,m4⟩:=h.m0
 have h0:0≤hi:=om
 have e0:lackN hi x=if hi-iD x.F<0 then 0 else hi-iD x.F:=rfl
 rw[e0]
 generalize iD x.F=s at*
 have ws:IntKind.i64.wrap (hi-s)=hi-s:=aT _ om
 have v0:(0:Int)≤(v:Int):=om
 have v1:(v:Int)<(L.length:Int):=om
 unfold maxLen at h3
 clear h h1 h4 hx hm hb hI e0 m1 m2 m3
 by_cases q:hi-s<0
 ·have q':decide (hi-s<0)=true:=decide_eq_true q
  rw[if_pos q]
  clear q
  go_enter Tryz.func144,Tryz.ntmps144
  go_wp2_with fail
  refine gB kR kR ?_
  repeat(go_big_quiet_step (((go_at_call 130;exact Calls.behind (FP.out _)))))
  refine wpQuiet_nil ?_
  intro w1 hw'
  have hb1:=gW hw'
  clear hw'
  obtain⟨c1,f1⟩:=lZ hb1;have z1:=hb1.size;try simp at z1 c1 f1
  go_wp2
  go_ret
  exact⟨rfl,hb1⟩
 ·have q':decide (hi-s<0)=false:=decide_eq_false q
  rw[if_neg q]
  clear q
  go_enter Tryz.func144,Tryz.ntmps144
  go_wp2_with fail
  refine gB kR kR ?_
  repeat(go_big_quiet_step (((go_at_call 130;exact Calls.behind (FP.out _)))))
  refine wpQuiet_nil ?_
  intro w1 hw'
  have hb1:=gW hw'
  clear hw'
  obtain⟨c1,f1⟩:=lZ hb1;have z1:=hb1.size;try simp at z1 c1 f1
  go_wp2
  go_ret
  exact⟨rfl,hb1⟩
end
section
open Go.RowKit
attribute [local go_sem ↓] bA bB
def oH (X:List Nat) (pm gN:Nat) (mn lw hi:Int) (O:List (List Int)) (M:List Nat) (w:World) (r:List Nd×Nat) (e:Ending) (w':World):Prop:=
 e= .returned (.int .i64 r.2)∧RZ X w' pm gN mn lw hi O M r.1∧Keep M w w'
theorem rgiveZ {X:List Nat} (pm gN:Nat) (mn lw hi:Int) (O:List (List Int)) (M:List Nat) (L:List Nd) (v a k:Int) (w:World) (h:RZ X w pm gN mn lw hi O M L) (hX: ∀x∈X,x<w.heap.size):
 Calls Tryz.prog 133 #[.pointer (some ⟨pm,0,none⟩),.agg #[.int .i64 v,.int .i64 a,.int .i64 k]] w (oH X pm gN mn lw hi O M w (jH L v a k)):=by
 have b0:Below w.heap.size w (w.alloc (.cells [.int .i64 v,.int .i64 a,.int .i64 k].toArray 61)):=gI
 have L0:=ah (gH.mk_ w [.int .i64 v,.int .i64 a,.int .i64 k] 61 rfl)
 have NO:=ah (jg pm gN mn lw hi O M L v _ (h.below b0))
 have HH:=ah h;have HB0:=ah b0
 by_cases hv:0≤v∧v<L.length
 ·rw[decide_eq_true hv] at NO
  obtain⟨vn,rfl⟩: ∃n:Nat,v=n:=⟨v.toNat,om⟩
  have hvl:vn<L.length:=om
  obtain⟨x,hx⟩: ∃x,L[vn]?=some x:=⟨L[vn],au hvl⟩
  obtain⟨m,hm⟩: ∃m,M[vn]?=some m:=⟨M[vn]'(by rw[h.len];exact hvl),au _⟩
  obtain⟨vF,vT,hb⟩:=h.bud vn m x hm hx
  have hI:=h.inv x (aA hx)
  have HM:=ah hm;have HX:=ah hx
  have v0:(0:Int)≤(vn:Int):=om
  have v1:(vn:Int)<(L.length:Int):=om
  have hmM:=aA hm
  have tail: ∀(r:List Nd×Nat) (Q:World→Ending→World→Prop),
   (∀W,Below w.heap.size w W→Calls Tryz.prog 228 #[.pointer (some ⟨m,0,none⟩),.agg #[.int .i64 a,.int .i64 k]] W (Q W))→
   (∀W e W',Below w.heap.size w W→Q W e W'→e= .returned (.int .i64 r.2)∧RZ X W' pm gN mn lw hi O M r.1∧Keep M w W')→
   Calls Tryz.prog 133 #[.pointer (some ⟨pm,0,none⟩),.agg #[.int .i64 vn,.int .i64 a,.int .i64 k]] w (oH X pm gN mn lw hi O M w r):=by
   intro r Q hQ hR
   have GI:=ah hQ;have GR:=ah hR
   unfold oH
   clear h b0 hx hm hb hI hv hQ hR
   go_enter Tryz.func133,Tryz.ntmps133
   go_wp2_with fail
   refine NO.out.mono ?_
   rintro e w1 ⟨rfl,hb1⟩
   have K1:Below w.heap.size w w1:=HB0.out.trans (hb1.mono sI)
   have h1:=HH.out.below K1
   obtain⟨vP,vN,kn,ko,qo,hz,hk1,hk2,_⟩:=h1.z
   have c5:=hz.c 5 _ rfl;have cl:=hz.lt
   have r0:=h1.nodes.c vn _ (jo HM.out);have gl:=h1.nodes.lt
   have P:=L0.out.go hb1
   have p0:=P.c 0 _ rfl;have p1:=P.c 1 _ rfl;have p2:=P.c 2 _ rfl;have pl:=P.lt
   unfold maxLen at hk2
   have KK:=ah K1
   clear hz h1 P NO hb1 K1
   go_wp2_with fail
   refine iK 10 kR kR ?_
   simp only[aO,aX,aP,aV]
   repeat still_step
   refine wpStill_nil ?_
   go_wp2_with fail
   refine(GI.out _ KK.out.drew).mono ?_
   intro e w2 hq
   obtain⟨rfl,hr⟩:=GR.out _ _ _ KK.out.drew hq
   have HR:=ah hr
   clear hq hr GI
   go_wp2
   go_ret
   exact⟨rfl,HR.out.1,HR.out.2⟩
  by_cases hg:jK x.T a=some k
  ·rw[wO hx hg]
   refine tail _ (fun W e W'=>∃vF' vT',e= .returned (.int .i64 0)∧kW X W' m x.n vF' vT' (sQ a k x.F) (iV a x.T)∧Keep [m] W W') (fun W hbw=>Cz m x.n vF vT x.F x.T a k W (hb.below hbw) (fun y hy=>aG (hX y hy) hbw.size) hI (j5 hg)) ?_
   rintro W e W' hbw ⟨vF',vT',rfl,hb',hk⟩
   have k2:Keep [m] w W':=(Keep.of hbw).then hk
   exact⟨rfl,h.act hm hx hb' (hI.give (j5 hg)) k2,k2.mono (fun s hs=>by simp at hs;subst hs;exact hmM)⟩
  ·rw[zM hx hg]
   refine tail _ (fun W e W'=>e= .returned (.int .i64 4)∧Below W.heap.size W W') (fun W hbw=>Ar m x.n vF vT x.F x.T a k W (hb.below hbw) hI.lenT (fun q=>hg (ni hI.ta q))) ?_
   rintro W e W' hbw ⟨rfl,hb2⟩
   have K2:Below w.heap.size w W':=hbw.trans (hb2.mono hbw.size)
   exact⟨rfl,h.below K2,Keep.of K2⟩
 ·rw[decide_eq_false hv] at NO
  rw[wN om]
  unfold oH
  simp only
  clear h hv b0
  go_enter Tryz.func133,Tryz.ntmps133
  go_wp2_with fail
  refine NO.out.mono ?_
  rintro e w1 ⟨rfl,hb1⟩
  have K1:Below w.heap.size w w1:=HB0.out.trans (hb1.mono sI)
  go_wp2
  go_ret
  exact⟨rfl,HH.out.below K1,Keep.of K1⟩
theorem Dt (M:List Nat) (j m:Nat):jR (M.set j m)=(jR M).set j (.pointer (some ⟨m,0,none⟩)):=by simp[jR,List.map_set]
theorem wR: ∀{M:List Nat} {j m:Nat},M.Nodup→m∉M→(M.set j m).Nodup
 |[],j,m,_,_=>sI
 |a::M,0,m,h,hm=>by
  simp at hm h ⊢
  exact⟨hm.2,h.2⟩
 |a::M,j+1,m,h,hm=>by
  simp only[List.set_cons_succ,bL] at h ⊢
  refine⟨fun q=> ?_,wR h.2 (fun q=>hm (aj _ q))⟩
  rcases bS q with r|r
  ·exact h.1 r
  ·exact hm (r▸aD ..)
theorem RZ.swap {X:List Nat} {w w':World} {pm gN:Nat} {mn lw hi:Int} {O:List (List Int)} {M:List Nat} {L:List Nd} (h:RZ X w pm gN mn lw hi O M L) {j m':Nat} {x:Nd} (hx:L[j]?=some x) (hm':w.heap.size≤m') {F T:List (Int×Int)} {vF vT:Value} (hb:kW (m'::X) w' m' x.n vF vT F T) (hI:Inv x.n F T) (k:Keep [gN] w w') (hg:gH w' gN ((jR M).set j (.pointer (some ⟨m',0,none⟩)))):
 RZ (m'::X) w' pm gN mn lw hi O (M.set j m') (L.set j ⟨x.pb,x.bf,x.bt,x.n,F,T⟩):=by
 have il:=(ak.1 hx).1
 have nlt:=h.nodes.lt
 have h':=h.more (Y:=m'::X) (fun y hy=>aj _ hy) (fun y hy=>by simp at hy;rcases hy with rfl|hy;(·exact .inr hm');(·exact .inl hy))
 obtain⟨vP,vN,kn,ko,qo,h1,h2,h3,h4⟩:=h'.z
 obtain⟨n1,n2,n3,n4⟩:=h.ne
 have nM:m'∉M:=fun q=>by have:=h.lt q;omega
 have np:m'≠pm:=fun q=>by have:=h1.lt;omega
 have ng:m'≠gN:=fun q=>om
 refine⟨⟨vP,vN,kn,ko,qo,by rw[bR];exact h1.keep k (by simpa using n1),by rw[bR];exact h2,h3,by rw[bR];exact h4.keep k (fun s q=>by simp at q;subst q;exact .inl h'.mem.2)⟩,by rw[Dt];exact hg,by simp[h.len],fun i m y hm hy=> ?_,fun y hy=> ?_,h'.mem,⟨n1,?_,?_,?_⟩,by rw[bR];exact h.ord,h.m0⟩
 ·by_cases e:j=i
  ·subst e
   rw[bD (by rw[h.len];exact il)] at hm;obtain rfl:=aI hm
   rw[bD il] at hy;obtain rfl:=aI hy
   exact⟨vF,vT,hb⟩
  ·rw[d9 e] at hm hy
   obtain⟨vF',vT',hb'⟩:=h'.bud i m y hm hy
   have hmg:m≠gN:=fun q=>n3 (q▸aA hm)
   exact⟨vF',vT',hb'.keep k fun s q=>by simp at q;subst q;exact .inl ⟨h'.mem.2,fun r=>hmg r.symm⟩⟩
 ·rcases bS hy with q|q
  ·exact h.inv y q
  ·subst q;exact hI
 ·intro q;rcases bS q with r|r;(·exact n2 r);(·exact np r.symm)
 ·intro q;rcases bS q with r|r;(·exact n3 r);(·exact ng r.symm)
 ·exact wR n4 nM
def lG (X:List Nat) (pm gN:Nat) (mn lw hi:Int) (O:List (List Int)) (M:List Nat) (w:World) (r:List Nd×Nat×Pl) (e:Ending) (w':World):Prop:=
 e= .returned (.tuple #[plV r.2.2,.int .i64 r.2.1])∧(∃X' M',RZ X' w' pm gN mn lw hi O M' r.1∧(∀x∈X,x∈X')∧(∀x∈X',x∈X∨w.heap.size≤x)∧(∀x∈X',x<w'.heap.size)∧∀m∈M',m∈M∨w.heap.size≤m)∧Keep [gN] w w'
theorem nT {X:List Nat} {pm gN:Nat} {mn lw hi:Int} {O:List (List Int)} {M:List Nat} {L:List Nd} {w w':World} (h:RZ X w pm gN mn lw hi O M L) (hX: ∀x∈X,x<w.heap.size) (hb:Below w.heap.size w w') {r:List Nd×Nat×Pl} (hr:r.1=L) {e:Ending} (he:e= .returned (.tuple #[plV r.2.2,.int .i64 r.2.1])):lG X pm gN mn lw hi O M w r e w':=
 ⟨he,⟨X,M,by rw[hr];exact h.below hb,fun _ h=>h,fun _ h=>.inl h,fun x hx=>aG (hX x hx) hb.size,fun _ h=>.inl h⟩,Keep.of hb⟩
theorem AQ {X:List Nat} (pm gN:Nat) (mn lw hi:Int) (O:List (List Int)) (M:List Nat) (L:List Nd) (v k:Int) (u:Bool) (w:World) (h:RZ X w pm gN mn lw hi O M L) (hX: ∀x∈X,x<w.heap.size) (hv:v<0∨(L.length:Int)≤v∨k<0∨6<k):
 Calls Tryz.prog 28 #[.pointer (some ⟨pm,0,none⟩),.int .i64 v,.int .i64 k,.bool u] w (lG X pm gN mn lw hi O M w (gY mn O L v k u)):=by
 have b0:Below w.heap.size w (w.alloc (.cells [.int .i64 0,.int .i64 0,.int .i64 0].toArray 61)):=gI
 have L0:=ah (gH.mk_ w [.int .i64 0,.int .i64 0,.int .i64 0] 61 rfl)
 have NO:=ah (jg pm gN mn lw hi O M L v _ (h.below b0))
 have HH:=ah h;have HX:=ah hX;have HB0:=ah b0
 have HT:=ah (oq (mn:=mn) (O:=O) (u:=u) hv)
 have hcase:(0≤v∧v<L.length)→(0≤k∧k≤6)→False:=om
 clear h hX hv b0
 by_cases hv:0≤v∧v<L.length
 all_goals by_cases hk:0≤k∧k≤6
 ·exact absurd hk (fun q=>hcase hv q)
 all_goals
  first|rw[decide_eq_true hv] at NO|rw[decide_eq_false hv] at NO
  have OD:Hid (∀W,Calls Tryz.prog 127 #[.int .i64 k] W fun e w'=>e= .returned (.bool (decide (0≤k∧k≤6)))∧W=w'):=fun W=>qV k W
  first|rw[decide_eq_true hk] at OD|rw[decide_eq_false hk] at OD
  clear hcase hv hk
  go_enter Tryz.func28,Tryz.ntmps28
  go_wp2_with fail
  refine NO.out.mono ?_
  rintro e w1 ⟨rfl,hb1⟩
  have K1:Below w.heap.size w w1:=HB0.out.trans (hb1.mono sI)
  have P:=L0.out.go hb1
  have p0:=P.c 0 _ rfl;have p1:=P.c 1 _ rfl;have p2:=P.c 2 _ rfl;have f0:=P.f 0 sI;have f1:=P.f 1 sI;have f2:=P.f 2 sI;have pl:=P.lt
  have LF:=ah (P.mJ (.int .i64 0) (.int .i64 0) (.int .i64 0))
  clear P
  go_wp2_with fail
  refine(OD.out _).mono ?_
  rintro e w2 ⟨rfl,rfl⟩
  go_wp2
  have e0:=LF.out.c 0 _ rfl;have e1:=LF.out.c 1 _ rfl;have e2:=LF.out.c 2 _ rfl
  exact bodyPost_ret (v:=.tuple #[plV (0,0,0),.int .i64 2]) (by simp[e0,e1,e2,results,fO,go_sem,plV]) rfl (nT HH.out HX.out (Keep.nX (by repeat(first|exact Keep.of K1|refine Keep.alloc ?_ _|refine Keep.drew ?_|refine Keep.drewN ?_ _|refine Keep.setCell ?_ (.inr (by first|omega|(simp;omega)|(simp;done))) _))) (by rw[HT.out]) (by rw[HT.out];rfl))
end
section
open Go.RowKit
attribute [local go_sem ↓] bA bB
def sD (k:Int) (L:List Nd) (j:Int):Bool:=match L[j.toNat]? with|some x=>oh k x|none=>false
theorem any_all {k:Int} {L:List Nd} {D:List Int} (h: ∀x:Int,x∈D↔0≤x∧x<L.length):D.any (sD k L)=L.any (oh k):=by
 rw[Bool.eq_iff_iff,dM,dM]
 constructor
 ·rintro⟨j,hj,hh⟩
  unfold sD at hh
  split at hh
  ·rename_i x hx
   exact⟨x,aA hx,hh⟩
  ·cases hh
 ·rintro⟨x,hx,hh⟩
  obtain⟨i,hi⟩:=bV hx
  have:=(ak.1 hi).1
  refine⟨(i:Int),(h _).2 ⟨om,om⟩,?_⟩
  unfold sD
  rw[bC,hi]
  exact hh
theorem wS {α:Type} {p:α→Bool} {D:List α} {t:Nat} {z:α} (hz:D[t]?=some z):(D.take (t+1)).any p=((D.take t).any p||p z):=jQ hz
theorem um {k:Int} {x:Nd}:oh k x=(iG k x.F).isSome:=by unfold oh;rw[wI]
theorem rhit {X:List Nat} {pm gN:Nat} {mn lw hi:Int} {O:List (List Int)} {M:List Nat} {L:List Nd} {w w3 w6 w7:World} {r:List Nd×Nat×Pl} {k:Int} {zn m':Nat} {x:Nd} {b:Int×Int} {vF vT:Value} (hr:r=(L.set (zn:Int).toNat (kS k b x),0,((zn:Int),b.1,k)))
 (h:RZ X w pm gN mn lw hi O M L) (hX: ∀y∈X,y<w.heap.size) (hx:L[zn]?=some x) (hm:w.heap.size<m') (hb:kW (m'::w.heap.size::X) w3 m' x.n vF vT (kQ k b x.F) (ji b.1 k x.T)) (hI:Inv x.n (kQ k b x.F) (ji b.1 k x.T)) (B06:Below w.heap.size w w6) (B36:Below w3.heap.size w3 w6) (hN:gH w6 gN (jR M))
 (e7:w7=(((w6.setCell ⟨gN,zn,none⟩ (.pointer (some ⟨m',0,none⟩))).setCell ⟨w.heap.size,0,none⟩ (.int .i64 zn)).setCell ⟨w.heap.size,1,none⟩ (.int .i64 b.1)).setCell ⟨w.heap.size,2,none⟩ (.int .i64 k)):
 lG X pm gN mn lw hi O M w r (.returned (.tuple #[plV ((zn:Int),b.1,k),.int .i64 0])) w7:=by
 have il:=(ak.1 hx).1
 have gw:gN<w.heap.size:=h.nodes.lt
 have k67:Keep [gN,w.heap.size] w6 w7:=by
  rw[e7]
  exact((((Keep.refl _ _).setCell (p:=⟨gN,zn,none⟩) (.inl sI) _).setCell (p:=⟨w.heap.size,0,none⟩) (.inl sI) _).setCell (p:=⟨w.heap.size,1,none⟩) (.inl sI) _).setCell (p:=⟨w.heap.size,2,none⟩) (.inl sI) _
 have kw7:Keep [gN] w w7:=by
  rw[e7]
  exact((((Keep.of B06).setCell (p:=⟨gN,zn,none⟩) (.inl sI) _).setCell (p:=⟨w.heap.size,0,none⟩) (.inr (aH _)) _).setCell (p:=⟨w.heap.size,1,none⟩) (.inr (aH _)) _).setCell (p:=⟨w.heap.size,2,none⟩) (.inr (aH _)) _
 have hN7:gH w7 gN ((jR M).set zn (.pointer (some ⟨m',0,none⟩))):=by
  rw[e7]
  exact(((hN.store zn (.pointer (some ⟨m',0,none⟩)) (by rw[jf,h.len];exact il)).far om 0 _).far om 1 _).far om 2 _
 have mlt:=hb.lt
 have hmw:m'≠w.heap.size:=om
 have hb7:kW (m'::w.heap.size::X) w7 m' x.n vF vT (kQ k b x.F) (ji b.1 k x.T):=(hb.below B36).keep k67 (fun s hs=>by
  simp at hs
  rcases hs with rfl|rfl
  ·exact .inl ⟨by simp[h.mem.2],om⟩
  ·exact .inl ⟨sI,fun q=>hmw q.symm⟩)
 have hb8:kW (m'::X) w7 m' x.n vF vT (kQ k b x.F) (ji b.1 k x.T):=hb7.sub sI (fun y hy=>by simp at hy ⊢;rcases hy with rfl|hy;(·exact .inl rfl);(·exact .inr (.inr hy)))
 subst hr
 refine⟨rfl,⟨m'::X,M.set zn m',?_,fun y hy=>aj _ hy,fun y hy=> ?_,fun y hy=> ?_,fun y hy=> ?_⟩,kw7⟩
 ·rw[bC]
  exact h.swap hx om hb8 hI kw7 hN7
 ·simp at hy;rcases hy with rfl|hy
  ·exact .inr om
  ·exact .inl hy
 ·simp at hy;rcases hy with rfl|hy
  ·exact hb8.lt
  ·exact aG (hX y hy) kw7.size
 ·rcases bS hy with q|q
  ·exact .inl q
  ·subst q;exact .inr om
theorem yw {X:List Nat} (pm gN:Nat) (mn lw hi:Int) (O:List (List Int)) (M:List Nat) (L:List Nd) (v:Nat) (k:Int) (u:Bool) (w:World) (h:RZ X w pm gN mn lw hi O M L) (hX: ∀x∈X,x<w.heap.size) (hv:v<L.length) (k0:0≤k) (k6:k≤6):
 Calls Tryz.prog 28 #[.pointer (some ⟨pm,0,none⟩),.int .i64 v,.int .i64 k,.bool u] w (lG X pm gN mn lw hi O M w (gY mn O L v k u)):=by
 obtain⟨D,hD,hDl,hDm⟩:=h.ord.get hv
 have hnn: ¬((v:Int)<0∨(L.length:Int)≤(v:Int)∨k<0∨6<k):=om
 have TNO:Hid (og mn k u L D=none→gY mn O L v k u=(L,uW k L,(0,0,0))):=fun hp=>uX hnn (by simpa using hD) hp
 have TYES:Hid (∀(j:Int) (x:Nd) (b:Int×Int),og mn k u L D=some j→L[j.toNat]?=some x→iG k x.F=some b→gY mn O L v k u=(L.set j.toNat (kS k b x),0,(j,b.1,k))):=fun j x b hp hx hb=>rU hnn (by simpa using hD) hp hx hb
 have b0:Below w.heap.size w (w.alloc (.cells [.int .i64 0,.int .i64 0,.int .i64 0].toArray 61)):=gI
 have L0:=ah (gH.mk_ w [.int .i64 0,.int .i64 0,.int .i64 0] 61 rfl)
 have NO:=jg pm gN mn lw hi O M L v _ (h.below b0)
 rw[decide_eq_true (show 0≤(v:Int)∧(v:Int)<L.length by omega)] at NO
 have NO:=ah NO
 have HH:=ah h;have HX:=ah hX;have HB0:=ah b0;have HD:=ah hD;have HDM:=ah hDm;have HDL:=ah hDl
 obtain⟨vP,vN,kn,ko,qo,hz,hk1,hk2,hrr⟩:=h.z
 obtain⟨p,cap,ep,hc1,hc2,hcn⟩:=hrr.form
 rw[h.ord.1] at ep hc1
 injection ep with ep1 ep2 ep3
 subst ep1 ep3
 obtain⟨gO,oO,uD,rfl,_,hgO,hcu,hu⟩:=hcn v D hD
 obtain⟨pD,kD,rfl,hkD,hmD,hcD⟩:=hu.int
 obtain⟨gD,oD,rfl,_,hgD,hz0⟩:=hcD 0 _ (au om)
 clear hz0
 have HCD:Hid (∀t z,D[t]?=some z→w.cell? ⟨gD,oD+t,none⟩=some (.int .i64 z)):=fun t z hz=>by
  obtain⟨g',o',e,_,_,q⟩:=hcD t z hz
  injection e with e;injection e with ea eb
  subst ea eb
  exact q
 have HZ:=ah hz;have HCU:=ah hcu
 have zl:=hz.lt
 have v0:(0:Int)≤(v:Int):=om
 have v1:(v:Int)<(L.length:Int):=om
 rw[hDl] at hkD HCU
 unfold maxLen at hk2 hc2 hmD
 clear h hX b0 hD hDm hDl hnn hz hrr hcn hcu hu hcD
 go_enter Tryz.func28,Tryz.ntmps28
 go_wp2_with fail
 refine NO.out.mono ?_
 rintro e w1 ⟨rfl,hb1⟩
 have K1:Below w.heap.size w w1:=HB0.out.trans (hb1.mono sI)
 have z1:=hb1.size
 simp at z1
 have P1:=ah (L0.out.go hb1)
 clear NO L0 HB0 hb1
 go_wp2_with (go_at_call 127;refine(xL _ _ ⟨k0,k6⟩).mono ?_;rintro e w' ⟨rfl,rfl⟩)
 go_loopw [12,13] (fun lv iv wr=>∃t:Nat,t≤L.length∧iv= .int .i64 t∧lv= .bool ((D.take t).any (sD k L))∧Hid (∀z∈D.take t,sU mn k u L z=false)∧Below w1.heap.size w1 wr) (fun _ iv _=>L.length-(intOf iv).toNat)
 case atStart=>exact⟨0,aQ _,by go_num,sI,(show∀z∈D.take 0,sU mn k u L z=false from sI),aK _ _⟩
 case round=>
  obtain⟨t,ht,rfl,rfl,NOK,hbel⟩:=hrel
  have zr:=hbel.size
  have KR:Below w.heap.size w wr:=K1.trans (hbel.mono om)
  have hZr:=HZ.out.go KR
  have c5:=hZr.c 5 _ rfl;have c6:=hZr.c 6 _ rfl;have cl:=hZr.lt
  by_cases hlt:t<L.length
  ·obtain⟨z,hz⟩: ∃z,D[t]?=some z:=⟨D[t]'(by rw[HDL.out];exact hlt),au _⟩
   have hzm:=(HDM.out z).1 (aA hz)
   obtain⟨zn,rfl⟩: ∃zn:Nat,z=zn:=⟨z.toNat,om⟩
   obtain⟨x,hx⟩: ∃x,L[zn]?=some x:=⟨L[zn]' om,au _⟩
   obtain⟨m,hm⟩: ∃m,M[zn]?=some m:=⟨M[zn]'(by rw[HH.out.len];omega),au _⟩
   have r0:=(KR.cell (p:=⟨gO,oO+v,none⟩) hgO).trans HCU.out
   have r1:=(KR.cell (p:=⟨gD,oD+t,none⟩) hgD).trans (HCD.out t _ hz)
   have n0:=(HH.out.nodes.go KR).c zn _ (jo hm);have nl:=(HH.out.nodes.go KR).lt
   have zO:gO<wr.heap.size:=om
   have zD:gD<wr.heap.size:=om
   have t0:(0:Int)≤(t:Int):=om
   have t1:(t:Int)<(L.length:Int):=om
   have y0:(0:Int)≤(zn:Int):=om
   have y1:(zn:Int)<(L.length:Int):=om
   obtain⟨vF,vT,hbud0⟩:=HH.out.bud zn m x hm hx
   have su:=(hbud0.more (Y:=w.heap.size::X) (aj _ hbud0.mem) (fun y hy=>by simp at hy;rcases hy with rfl|hy;(·exact .inr (aH _));(·exact .inl hy))).below KR
   have hI:=HH.out.inv x (aA hx)
   have hXr: ∀y∈w.heap.size::X,y<wr.heap.size:=fun y hy=>by simp at hy;rcases hy with rfl|hy;(·omega);(·exact aG (HX.out y hy) KR.size)
   have OW:=ah (own_ok m x.n vF vT x.F x.T wr su hXr hI.lenF hI.lenT)
   have HI:=ah hI;have HXr:=ah hXr;have HX1:=ah hx;have HM1:=ah hm;have HZ1:=ah hz
   clear hx hm su hbud0 hI hXr hz hZr
   go_wp2_with fail
   refine OW.out.mono ?_
   rintro e w2 ⟨m',vF',vT',rfl,hb',hm',hb2⟩
   have z2:=hb2.size
   have RT:=ah (Aq (X:=m'::w.heap.size::X) m' x.n vF' vT' x.F x.T k w2 hb' (fun y hy=>by rcases aC.1 hy with rfl|hy;(·exact hb'.lt);(·exact aG (HXr.out y hy) z2)) HI.out k0)
   have HB':=ah hb'
   clear OW hb' r0 r1 n0
   go_wp2_with fail
   refine RT.out.mono ?_
   rintro e w3 (⟨hbn,rfl,hb3⟩|⟨b,vF2,vT2,hbb,rfl,hr3,hk3⟩)
   ·have hs:oh k x=false:=by rw[um,hbn];rfl
    have hha:sD k L (zn:Int)=false:=by unfold sD;rw[bC,HX1.out];exact hs
    have hno:sU mn k u L (zn:Int)=false:=by unfold sU;rw[bC,HX1.out];simp[okN,hbn]
    have NOK2:=ah (lC NOK.out HZ1.out hno)
    have AN:=ah (wS (p:=sD k L) HZ1.out)
    rw[hha,Bool.or_false] at AN
    have K3:Below w1.heap.size w1 w3:=hbel.trans ((hb2.trans (hb3.mono z2)).mono zr)
    have z3:=K3.size
    clear hs hha hno hbn RT
    go_wp2
    go_roundw
    case rel=>exact⟨t+1,om,by go_num,by rw[AN.out],NOK2,gI⟩
    case measure=>simp[intOf];omega
   ·have hs:oh k x=true:=by rw[um,hbb];rfl
    have hha:sD k L (zn:Int)=true:=by unfold sD;rw[bC,HX1.out];exact hs
    have AN:=ah (wS (p:=sD k L) HZ1.out)
    rw[hha,Bool.or_true] at AN
    have hsum:=HI.out.yZ k0 hbb
    have hI2:=HI.out.take k0 hbb
    have s0:=HI.out.BP.1;have s1:iD x.F≤256:=by have:=HI.out.BP.2;have:=HI.out.n2;omega
    have s2:=(nK k0 k6)
    have K3:Below w.heap.size w w3:=(KR.trans (hb2.mono KR.size)).trans (hk3.below (by have:=KR.size;omega) (fun s hs=>by simp at hs;omega))
    have B13:Below w1.heap.size w1 w3:=(hbel.trans (hb2.mono zr)).trans (hk3.below om (fun s hs=>by simp at hs;omega))
    have z3:=B13.size
    have hmay:mayN mn k u x=(u||decide (mn≤iD x.F-sz k)):=rfl
    have FP:=ah (fun(p:Behind (w3.alloc (.cells [.int .i64 b.1,.int .i64 k].toArray 59)))=>kJ m' x.n vF2 vT2 (kQ k b x.F) (ji b.1 k x.T) p.w' ((hr3.below ((aK _ _).alloc (aH _) _)).below p.h) hI2)
    rw[hsum] at FP
    have HR3:=ah hr3
    have HBB:=ah hbb
    have OKD:Hid (mayN mn k u x=true→sU mn k u L (zn:Int)=true):=fun q=>by unfold sU;rw[bC,HX1.out];simp[okN,q,HBB.out]
    have OKN:Hid (mayN mn k u x=false→sU mn k u L (zn:Int)=false):=fun q=>by unfold sU;rw[bC,HX1.out];simp[okN,q]
    have hZ3:=HZ.out.go K3
    have d2:=hZ3.c 2 _ rfl;have d3l:=hZ3.lt
    obtain⟨b1,b2⟩:=b
    simp only at FP
    have b61:Below w3.heap.size w3 (w3.alloc (.cells [.int .i64 b1,.int .i64 k].toArray 59)):=gI
    rw[hmay] at OKD OKN
    clear hs hha hsum hI2 hr3 hbb hZ3 hmay RT hk3 c5 c6
    cases u with
    |true=>
     have OKA:=ah (OKD.out rfl)
     go_wp2_with fail
     go_quiet (fail)
     ·obtain⟨w6,hw6⟩: ∃w6,w6=(w3.alloc (.cells #[.int .i64 b1,.int .i64 k] 59)).drewN nq:=⟨_,rfl⟩
      rw[←hw6]
      have B6:Below (w3.alloc (.cells [.int .i64 b1,.int .i64 k].toArray 59)).heap.size (w3.alloc (.cells [.int .i64 b1,.int .i64 k].toArray 59)) w6:=by rw[hw6];exact below_drewN (aK _ _) _
      clear hw6
      have B06:Below w.heap.size w w6:=K3.trans ((b61.trans (B6.mono sI)).mono K3.size)
      have B16:Below w1.heap.size w1 w6:=B13.trans ((b61.trans (B6.mono sI)).mono B13.size)
      have B36:Below w3.heap.size w3 w6:=b61.trans (B6.mono sI)
      have z36:=B36.size
      have hZ6:=HZ.out.go B06
      have d5:=hZ6.c 5 _ rfl;have dl:=hZ6.lt
      have N6:=HH.out.nodes.go B06
      have n0:=N6.c zn _ (jo HM1.out);have nf:=N6.f zn (by rw[jf,HH.out.len];omega);have nl6:=N6.lt
      have T6:=(gH.mk_ w3 [.int .i64 b1,.int .i64 k] 59 rfl).go B6
      have t60:=T6.c 0 _ rfl;have t61:=T6.c 1 _ rfl;have t6l:=T6.lt
      have P6:=P1.out.go B16
      have p0:=P6.c 0 _ rfl;have p1:=P6.c 1 _ rfl;have p2:=P6.c 2 _ rfl;have f0:=P6.f 0 sI;have f1:=P6.f 1 sI;have f2:=P6.f 2 sI;have pl:=P6.lt
      have gw:gN<w.heap.size:=HH.out.nodes.lt
      have ne1: ¬(gN=w.heap.size):=om
      have ne2: ¬(w.heap.size=gN):=om
      have ne3: ¬(w3.heap.size=gN):=om
      have ne4: ¬(gN=w3.heap.size):=om
      have ne5: ¬(w3.heap.size=w.heap.size):=om
      have ne6: ¬(w.heap.size=w3.heap.size):=om
      have HN6:=ah N6;have HP6:=ah P6;have HB06:=ah B06;have HB36:=ah B36
      clear hZ6 N6 T6 P6 B06 B16 B36 B6 b61
      go_wp2
      have LF:=(HP6.out.far ne1 zn (.pointer (some ⟨m',0,none⟩))).mJ (.int .i64 zn) (.int .i64 b1) (.int .i64 k)
      have e0:=LF.c 0 _ rfl;have e1:=LF.c 1 _ rfl;have e2:=LF.c 2 _ rfl
      refine bodyPost_ret (v:=.tuple #[plV (zn,b1,k),.int .i64 0]) (by simp[e0,e1,e2,results,fO,go_sem,plV]) rfl ?_
      exact rhit (TYES.out _ x (b1,b2) (xZ NOK.out HZ1.out OKA.out) (by rw[bC];exact HX1.out) HBB.out) HH.out HX.out HX1.out om HR3.out (HI.out.take k0 HBB.out) HB06.out HB36.out HN6.out rfl
    |false=>
     by_cases hmn:mn≤iD x.F-sz k
     ·have hlt':decide (iD x.F-sz k<mn)=false:=decide_eq_false om
      have OKA:=ah (OKD.out (by simp[hmn]))
      go_wp2_with fail
      refine gB kR kR ?_
      repeat(go_big_quiet_step (((go_at_call 130;exact Calls.behind (FP.out _)))))
      refine wpQuiet_nil ?_
      intro w6 hw'
      have hb6:=gW hw'
      clear hw'
      have z6:=hb6.size;try simp at z6
      have B6:=hb6
      have B06:Below w.heap.size w w6:=K3.trans ((b61.trans (B6.mono sI)).mono K3.size)
      have B16:Below w1.heap.size w1 w6:=B13.trans ((b61.trans (B6.mono sI)).mono B13.size)
      have B36:Below w3.heap.size w3 w6:=b61.trans (B6.mono sI)
      have z36:=B36.size
      have hZ6:=HZ.out.go B06
      have d5:=hZ6.c 5 _ rfl;have dl:=hZ6.lt
      have N6:=HH.out.nodes.go B06
      have n0:=N6.c zn _ (jo HM1.out);have nf:=N6.f zn (by rw[jf,HH.out.len];omega);have nl6:=N6.lt
      have T6:=(gH.mk_ w3 [.int .i64 b1,.int .i64 k] 59 rfl).go B6
      have t60:=T6.c 0 _ rfl;have t61:=T6.c 1 _ rfl;have t6l:=T6.lt
      have P6:=P1.out.go B16
      have p0:=P6.c 0 _ rfl;have p1:=P6.c 1 _ rfl;have p2:=P6.c 2 _ rfl;have f0:=P6.f 0 sI;have f1:=P6.f 1 sI;have f2:=P6.f 2 sI;have pl:=P6.lt
      have gw:gN<w.heap.size:=HH.out.nodes.lt
      have ne1: ¬(gN=w.heap.size):=om
      have ne2: ¬(w.heap.size=gN):=om
      have ne3: ¬(w3.heap.size=gN):=om
      have ne4: ¬(gN=w3.heap.size):=om
      have ne5: ¬(w3.heap.size=w.heap.size):=om
      have ne6: ¬(w.heap.size=w3.heap.size):=om
      have HN6:=ah N6;have HP6:=ah P6;have HB06:=ah B06;have HB36:=ah B36
      clear hZ6 N6 T6 P6 B06 B16 B36 B6 b61
      go_wp2
      have LF:=(HP6.out.far ne1 zn (.pointer (some ⟨m',0,none⟩))).mJ (.int .i64 zn) (.int .i64 b1) (.int .i64 k)
      have e0:=LF.c 0 _ rfl;have e1:=LF.c 1 _ rfl;have e2:=LF.c 2 _ rfl
      refine bodyPost_ret (v:=.tuple #[plV (zn,b1,k),.int .i64 0]) (by simp[e0,e1,e2,results,fO,go_sem,plV]) rfl ?_
      exact rhit (TYES.out _ x (b1,b2) (xZ NOK.out HZ1.out OKA.out) (by rw[bC];exact HX1.out) HBB.out) HH.out HX.out HX1.out om HR3.out (HI.out.take k0 HBB.out) HB06.out HB36.out HN6.out rfl
     ·have hlt':decide (iD x.F-sz k<mn)=true:=decide_eq_true om
      have NOK2:=ah (lC NOK.out HZ1.out (OKN.out (by simp[hmn])))
      go_wp2_with fail
      refine gB kR kR ?_
      repeat(go_big_quiet_step (((go_at_call 130;exact Calls.behind (FP.out _)))))
      refine wpQuiet_nil ?_
      intro w6 hw'
      have hb6:=gW hw'
      clear hw'
      have z6:=hb6.size;try simp at z6
      go_wp2
      go_roundw
      case rel=>exact⟨t+1,om,by go_num,by rw[AN.out],NOK2,B13.trans ((b61.trans (hb6.mono sI)).mono B13.size)⟩
      case measure=>simp[intOf];omega
  ·have et:t=D.length:=by have:=HDL.out;omega
   have hp:og mn k u L D=none:=D8 (fun z hz=>NOK.out z (by rw[et,bg];exact hz))
   have TT:=ah (TNO.out hp)
   have hany:(D.take t).any (sD k L)=L.any (oh k):=by rw[et,bg];exact any_all HDM.out
   have P:=P1.out.go hbel
   have p0:=P.c 0 _ rfl;have p1:=P.c 1 _ rfl;have p2:=P.c 2 _ rfl;have f0:=P.f 0 sI;have f1:=P.f 1 sI;have f2:=P.f 2 sI;have pl:=P.lt
   have LF:=ah (P.mJ (.int .i64 0) (.int .i64 0) (.int .i64 0))
   rw[hany]
   clear hp et hany P
   cases hl:L.any (oh k) with
   |true=>
    have hlow:uW k L=7:=by unfold uW;rw[if_pos hl]
    have HLO:=ah hlow
    clear hl hlow
    go_wp2
    have e0:=LF.out.c 0 _ rfl;have e1:=LF.out.c 1 _ rfl;have e2:=LF.out.c 2 _ rfl
    exact bodyPost_ret (v:=.tuple #[plV (0,0,0),.int .i64 7]) (by simp[e0,e1,e2,results,fO,go_sem,plV]) rfl (nT HH.out HX.out (Keep.nX (by repeat(first|exact Keep.of KR|refine Keep.alloc ?_ _|refine Keep.drew ?_|refine Keep.drewN ?_ _|refine Keep.setCell ?_ (.inr (by first|omega|(simp;omega)|(simp;done))) _))) (by rw[TT.out]) (by rw[TT.out,HLO.out];rfl))
   |false=>
    have hlow:uW k L=5:=by unfold uW;rw[hl];rfl
    have HLO:=ah hlow
    clear hl hlow
    go_wp2
    have e0:=LF.out.c 0 _ rfl;have e1:=LF.out.c 1 _ rfl;have e2:=LF.out.c 2 _ rfl
    exact bodyPost_ret (v:=.tuple #[plV (0,0,0),.int .i64 5]) (by simp[e0,e1,e2,results,fO,go_sem,plV]) rfl (nT HH.out HX.out (Keep.nX (by repeat(first|exact Keep.of KR|refine Keep.alloc ?_ _|refine Keep.drew ?_|refine Keep.drewN ?_ _|refine Keep.setCell ?_ (.inr (by first|omega|(simp;omega)|(simp;done))) _))) (by rw[TT.out]) (by rw[TT.out,HLO.out];rfl))
theorem uo {X:List Nat} (pm gN:Nat) (mn lw hi:Int) (O:List (List Int)) (M:List Nat) (L:List Nd) (v k:Int) (u:Bool) (w:World) (h:RZ X w pm gN mn lw hi O M L) (hX: ∀x∈X,x<w.heap.size):
 Calls Tryz.prog 28 #[.pointer (some ⟨pm,0,none⟩),.int .i64 v,.int .i64 k,.bool u] w (lG X pm gN mn lw hi O M w (gY mn O L v k u)):=by
 by_cases hv:v<0∨(L.length:Int)≤v∨k<0∨6<k
 ·exact AQ pm gN mn lw hi O M L v k u w h hX hv
 ·obtain⟨n,rfl⟩: ∃n:Nat,v=n:=⟨v.toNat,om⟩
  exact yw pm gN mn lw hi O M L n k u w h hX om om om
end
section
open Go.RowKit Go.Maps
def bools (T:List Bool):List Value:=T.map Value.bool
theorem iJ (T:List Bool):(bools T).length=T.length:=by simp[bools]
theorem iC {T:List Bool} {j:Nat} {b:Bool} (h:T[j]?=some b):(bools T)[j]?=some (.bool b):=by simp[bools,h]
theorem wT (T:List Bool) (k:Nat) (b:Bool):bools (T.set k b)=(bools T).set k (.bool b):=by simp[bools,List.map_set]
abbrev SA:=List (Nat×Nat)
def gJ (A:SA):List Value:=A.map fun p=>.pointer (some ⟨p.1,0,none⟩)
theorem iX (A:SA):(gJ A).length=A.length:=by simp[gJ]
theorem sG {A:SA} {j:Nat} {p:Nat×Nat} (h:A[j]?=some p):(gJ A)[j]?=some (.pointer (some ⟨p.1,0,none⟩)):=by simp[gJ,h]
theorem lH (A:SA): ∀u∈gJ A,u.oneCell'=true:=by
 intro u hu
 obtain⟨p,_,rfl⟩:=bZ.1 hu
 rfl
theorem elSlab:El 198 208 (.pointer none) 8:=⟨bX,kR,rfl,om⟩
def iY (s:Sl) (gt:Nat):List Value:=[.int .i64 s.nd,.int .i64 s.pg,.int .i64 0,.slice (some ⟨gt,0,none⟩) s.T.length s.T.length,.int .i64 (gF s)]
def jZ (w:World) (p:Nat×Nat) (s:Sl):Prop:=gH w p.1 (iY s p.2)∧gH w p.2 (bools s.T)
def ay (A:SA):List Nat:=A.flatMap fun p=>[p.1,p.2]
theorem jq {A:SA} {y:Nat}:y∈ay A↔∃p∈A,y=p.1∨y=p.2:=by simp[ay]
def cay (pc:Nat) (v:Value) (A:SA):List Nat:=pc::(gQ v++ay A)
structure qh (X:List Nat) (B:Nat) (w:World) (pc pz e:Nat) (v:Value) (A:SA) (C:List Sl):Prop where
 c:gH w pc [.pointer (some ⟨pz,0,none⟩),.int .i64 e,v]
 row:w.ownsRow B 208 1 v C.length (gJ A)
 len:A.length=C.length
 sl: ∀(i:Nat) (p:Nat×Nat) (s:Sl),A[i]?=some p→C[i]?=some s→jZ w p s
 mem: ∀y∈cay pc v A,y∈X
 nd:(cay pc v A).Nodup
 lim: ∀y∈cay pc v A,B≤y∧y<w.heap.size
section
variable {X Y S:List Nat} {B:Nat} {w w':World} {pc pz e:Nat} {v:Value} {A:SA} {C:List Sl}
theorem jZ.keep {p:Nat×Nat} {s:Sl} (h:jZ w p s) (k:Keep S w w') (h1:p.1∉S) (h2:p.2∉S):jZ w' p s:=⟨h.1.keep k h1,h.2.keep k h2⟩
theorem qh.keep (h:qh X B w pc pz e v A C) (k:Keep S w w') (hs: ∀s∈S,s∉cay pc v A):qh X B w' pc pz e v A C:=
 ⟨h.c.keep k (fun q=>hs _ q (by simp[cay])),iB h.row k (fun x hx q=>hs x hx (by simp[cay,q])),h.len,fun i p s hp hq=>(h.sl i p s hp hq).keep k (fun q=>hs _ q (by
   unfold cay;exact aj _ (aB _ (jq.2 ⟨p,aA hp,.inl rfl⟩)))) (fun q=>hs _ q (by
   unfold cay;exact aj _ (aB _ (jq.2 ⟨p,aA hp,.inr rfl⟩)))),h.mem,h.nd,fun y hy=>⟨(h.lim y hy).1,aG (h.lim y hy).2 k.size⟩⟩
theorem qh.below (h:qh X B w pc pz e v A C) (k:Below w.heap.size w w'):qh X B w' pc pz e v A C:=h.keep (Keep.of (S:=[]) k) (fun s q=>by cases q)
theorem qh.more (h:qh X B w pc pz e v A C) (hX: ∀x∈X,x∈Y):qh Y B w pc pz e v A C:=⟨h.c,h.row,h.len,h.sl,fun y hy=>hX y (h.mem y hy),h.nd,h.lim⟩
theorem qh.at (h:qh X B w pc pz e v A C) {i:Nat} {s:Sl} (hs:C[i]?=some s): ∃p,A[i]?=some p∧jZ w p s∧p.1∈cay pc v A∧p.2∈cay pc v A:=by
 have hl:=(ak.1 hs).1
 obtain⟨p,hp⟩: ∃p,A[i]?=some p:=⟨A[i]'(by rw[h.len];exact hl),au _⟩
 have hm:=aA hp
 exact⟨p,hp,h.sl i p s hp hs,aj _ (aB _ (jq.2 ⟨p,hm,.inl rfl⟩)),aj _ (aB _ (jq.2 ⟨p,hm,.inr rfl⟩))⟩
theorem qh.form (h:qh X B w pc pz e v A C): ∃q k,v= .slice q C.length k∧C.length≤k∧k≤maxLen∧∀j p,A[j]?=some p→∃g,q=some ⟨g,0,none⟩∧g<w.heap.size∧w.cell? ⟨g,j,none⟩=some (.pointer (some ⟨p.1,0,none⟩)):=by
 have ho:=h.row
 have hln:=h.len
 rcases h.row.2 with⟨rfl,h3⟩|⟨g,cap,cur,rfl,hg,hh,hcap,hmax,_⟩
 ·refine⟨none,0,by rw[h3],om,by unfold maxLen;omega,fun j p hj=> ?_⟩
  have:=(ak.1 hj).1
  omega
 ·refine⟨some ⟨g,0,none⟩,cap,rfl,hcap,hmax,fun j p hj=>⟨g,rfl,(ho.lt g rfl).2,?_⟩⟩
  have hlt:=(ak.1 hj).1
  rw[ho.cellAt j om]
  exact sG hj
theorem zP {A:SA} (h:(ay A).Nodup) {i j:Nat} {p r:Nat×Nat} (hp:A[i]?=some p) (hr:A[j]?=some r) (hne:i≠j):p.1≠r.1∧p.1≠r.2∧p.2≠r.1∧p.2≠r.2:=by
 induction A generalizing i j with
 |nil=>simp at hp
 |cons a A ih=>
  simp only[ay,fu] at h
  obtain⟨n1,n2,n3⟩:=bU.1 h
  cases i with
  |zero=>
   cases j with
   |zero=>omega
   |succ j=>
    simp at hp hr
    subst hp
    have hm:=aA hr
    have m1:r.1∈A.flatMap fun p=>[p.1,p.2]:=jq.2 ⟨r,hm,.inl rfl⟩
    have m2:r.2∈A.flatMap fun p=>[p.1,p.2]:=jq.2 ⟨r,hm,.inr rfl⟩
    exact⟨n3 _ sI _ m1,n3 _ sI _ m2,n3 _ sI _ m1,n3 _ sI _ m2⟩
  |succ i=>
   cases j with
   |zero=>
    simp at hp hr
    subst hr
    have hm:=aA hp
    have m1:p.1∈A.flatMap fun p=>[p.1,p.2]:=jq.2 ⟨p,hm,.inl rfl⟩
    have m2:p.2∈A.flatMap fun p=>[p.1,p.2]:=jq.2 ⟨p,hm,.inr rfl⟩
    exact⟨fun q=>n3 _ sI _ m1 q.symm,fun q=>n3 _ sI _ m1 q.symm,fun q=>n3 _ sI _ m2 q.symm,fun q=>n3 _ sI _ m2 q.symm⟩
   |succ j=>exact ih n2 (by simpa using hp) (by simpa using hr) om
theorem uq {A:SA} (h:(ay A).Nodup) {i:Nat} {p:Nat×Nat} (hp:A[i]?=some p):p.1≠p.2:=by
 induction A generalizing i with
 |nil=>simp at hp
 |cons a A ih=>
  simp only[ay,fu] at h
  obtain⟨n1,n2,_⟩:=bU.1 h
  cases i with
  |zero=>simp at hp;subst hp;simpa using n1
  |succ i=>exact ih n2 (by simpa using hp)
theorem qh.nday (h:qh X B w pc pz e v A C):(ay A).Nodup:=(bU.1 (bL.1 h.nd).2).2.1
theorem qh.use (h:qh X B w pc pz e v A C) {i:Nat} {p:Nat×Nat} (hp:A[i]?=some p) {s:Sl} (hs:jZ w' p s) (k:Keep [p.1,p.2] w w'):qh X B w' pc pz e v A (C.set i s):=by
 have hm:=aA hp
 have a1:p.1∈ay A:=jq.2 ⟨p,hm,.inl rfl⟩
 have a2:p.2∈ay A:=jq.2 ⟨p,hm,.inr rfl⟩
 obtain⟨n0,n1⟩:=bL.1 h.nd
 obtain⟨_,n2,n3⟩:=bU.1 n1
 have npc:pc∉[p.1,p.2]:=fun q=>by
  simp at q
  rcases q with q|q
  ·exact n0 (aB _ (q▸a1))
  ·exact n0 (aB _ (q▸a2))
 have ho:w'.ownsRow B 208 1 v C.length (gJ A):=iB h.row k fun x hx q=>by
  simp at hx
  rcases hx with rfl|rfl
  ·exact n3 _ q _ a1 rfl
  ·exact n3 _ q _ a2 rfl
 refine⟨h.c.keep k npc,by rw[bR];exact ho,by simpa using h.len,fun j r z hr hz=> ?_,h.mem,h.nd,fun y hy=>⟨(h.lim y hy).1,aG (h.lim y hy).2 k.size⟩⟩
 by_cases e:i=j
 ·subst e
  rw[hp] at hr;obtain rfl:=aI hr
  rw[bD (by rw[←h.len];exact(ak.1 hp).1)] at hz
  obtain rfl:=aI hz
  exact hs
 ·rw[d9 e] at hz
  obtain⟨q1,q2,q3,q4⟩:=zP n2 hr hp om
  exact(h.sl j r z hr hz).keep k (by simp;exact⟨q1,q2⟩) (by simp;exact⟨q3,q4⟩)
end
end
section
open Go.RowKit Go.Maps
def obV (o:Ob):Value:=.agg #[.int .i64 o.1,.int .i64 o.2]
structure CS (B:Nat) (w:World) (pc pz:Nat) (mn lw hi:Int) (O:List (List Int)) (e:Nat) (X:List Nat) (v:Value) (A:SA) (c:Ca):Prop where
 z:nG X B w pz mn lw hi O c.L
 ch:qh X B w pc pz e v A c.C
 ne: ∀y∈cay pc v A,y∉ys c.L
 l0:0<c.L.length
section
variable {X Y S:List Nat} {B:Nat} {w w' w1:World} {pc pz e:Nat} {mn lw hi:Int} {O:List (List Int)} {v v':Value} {A:SA} {c:Ca} {L':List Nd}
theorem CS.below (h:CS B w pc pz mn lw hi O e X v A c) (k:Below w.heap.size w w'):CS B w' pc pz mn lw hi O e X v A c:=⟨h.z.below k,h.ch.below k,h.ne,h.l0⟩
theorem CS.keep (h:CS B w pc pz mn lw hi O e X v A c) (k:Keep S w w') (hs: ∀s∈S,s∉cay pc v A∧((s∈X∧s∉ys c.L)∨w.heap.size≤s)):CS B w' pc pz mn lw hi O e X v A c:=
 ⟨h.z.keep k (fun s q=>(hs s q).2),h.ch.keep k (fun s q=>(hs s q).1),h.ne,h.l0⟩
theorem CS.more (h:CS B w pc pz mn lw hi O e X v A c) (hX: ∀x∈X,x∈Y) (hY: ∀y∈Y,y∈X∨w.heap.size≤y):CS B w pc pz mn lw hi O e Y v A c:=⟨h.z.more hX hY,h.ch.more hX,h.ne,h.l0⟩
theorem CS.zone (h:CS B w pc pz mn lw hi O e X v A c) (k:Keep (ys c.L) w w') (hb:iH B w' pz mn lw hi O L') (hs:iE c.L L'):CS B w' pc pz mn lw hi O e X v A ⟨L',c.C⟩:=
 ⟨h.z.after k hb hs,h.ch.keep k (fun s q r=>h.ne s r q),by show∀y∈cay pc v A,y∉ys L';rw[hs.ys];exact h.ne,by show 0<L'.length;rw[←hs.1];exact h.l0⟩
theorem CS.slab (h:CS B w pc pz mn lw hi O e X v A c) {i:Nat} {p:Nat×Nat} (hp:A[i]?=some p):p.1∈cay pc v A∧p.2∈cay pc v A∧p.1≠p.2:=by
 have hm:=aA hp
 exact⟨aj _ (aB _ (jq.2 ⟨p,hm,.inl rfl⟩)),aj _ (aB _ (jq.2 ⟨p,hm,.inr rfl⟩)),uq h.ch.nday hp⟩
theorem CS.use (h:CS B w pc pz mn lw hi O e X v A c) {i:Nat} {p:Nat×Nat} (hp:A[i]?=some p) {s:Sl} (hs:jZ w' p s) (k:Keep [p.1,p.2] w w'):CS B w' pc pz mn lw hi O e X v A ⟨c.L,c.C.set i s⟩:=by
 obtain⟨m1,m2,_⟩:=h.slab hp
 refine⟨h.z.keep k (fun x hx=>.inl ?_),h.ch.use hp hs k,h.ne,h.l0⟩
 simp at hx
 rcases hx with rfl|rfl
 ·exact⟨h.ch.mem _ m1,h.ne _ m1⟩
 ·exact⟨h.ch.mem _ m2,h.ne _ m2⟩
theorem jZ.put {p:Nat×Nat} {s:Sl} {k:Nat} (b:Bool) (h:jZ w p s) (hne:p.1≠p.2) (hk:k<s.T.length):
 jZ ((w.setCell ⟨p.2,k,none⟩ (.bool b)).setCell ⟨p.1,4,none⟩ (.int .i64 (gF (jc s k b)))) p (jc s k b)∧Keep [p.1,p.2] w ((w.setCell ⟨p.2,k,none⟩ (.bool b)).setCell ⟨p.1,4,none⟩ (.int .i64 (gF (jc s k b)))):=by
 refine⟨⟨?_,?_⟩,((Keep.refl _ _).setCell (p:=⟨p.2,k,none⟩) (.inl sI) _).setCell (p:=⟨p.1,4,none⟩) (.inl sI) _⟩
 ·have h1:=(h.1.far (c:=p.2) (fun q=>hne q.symm) k (.bool b)).store 4 (.int .i64 (gF (jc s k b))) (by simp[iY])
  have e:(iY s p.2).set 4 (.int .i64 (gF (jc s k b)))=iY (jc s k b) p.2:=by simp[iY,jc]
  rwa [e] at h1
 ·have h2:=(h.2.store k (.bool b) (by rw[iJ];exact hk)).far (c:=p.1) hne 4 (.int .i64 (gF (jc s k b)))
  rw[←wT] at h2
  exact h2
theorem nW {α:Type} {l:List α} {i:Nat} {x:α} (hi:i≤l.length) (j:Nat):(l.take i++x::l.drop i)[j]?=if j<i then l[j]? else if j=i then some x else l[j-1]?:=by
 have hl:(l.take i).length=i:=by rw[aU];omega
 split
 ·rename_i h
  rw[bJ om,List.getElem?_take,if_pos h]
 ·split
  ·rename_i h;subst h
   rw[bQ om,hl,Nat.sub_self];rfl
  ·rw[bQ om,hl]
   obtain⟨d,hd⟩: ∃d,j-i=d+1:=⟨j-i-1,om⟩
   rw[hd,List.getElem?_cons_succ,bM]
   congr 1;omega
theorem wU (A:SA) (i:Nat) (p:Nat×Nat):gJ (A.take i++p::A.drop i)=(gJ A).take i++ .pointer (some ⟨p.1,0,none⟩)::(gJ A).drop i:=by simp[gJ,List.map_take,List.map_drop]
theorem sH (A:SA) (i:Nat) (p:Nat×Nat):(ay (A.take i++p::A.drop i)).Perm (p.1::p.2::ay A):=by
 have h:(A.take i++p::A.drop i).Perm (p::A):=by
  have:=List.perm_middle (a:=p) (l₁:=A.take i) (l₂:=A.drop i)
  rwa [bW] at this
 exact h.flatMap_right (fun p=>[p.1,p.2])
theorem qh.ins {C:List Sl} (h:qh X B w pc pz e v A C) {p:Nat×Nat} {s:Sl} {i n:Nat} (hi:i≤C.length) (k:Keep (gQ v) w w1) (own:w1.ownsRow B 208 1 v' (C.length+1) (gJ (A.take i++p::A.drop i))) (hw':w'=w1.setCell ⟨pc,2,none⟩ v') (hs:jZ w p s)
 (n1:p.1∉cay pc v A) (n2:p.2∉cay pc v A) (n12:p.1≠p.2) (b1:B≤p.1) (b2:B≤p.2) (hv': ∀y∈gQ v',y∈gQ v∨w.heap.size≤y):
 qh (p.1::p.2::(gQ v'++X)) B w' pc pz e v' (A.take i++p::A.drop i) (C.take i++s::C.drop i)∧Keep (pc::gQ v) w w'∧∀y∈cay pc v' (A.take i++p::A.drop i),y∈cay pc v A∨y=p.1∨y=p.2∨w.heap.size≤y:=by
 obtain⟨n0,nn⟩:=bL.1 h.nd
 obtain⟨no,na,nx⟩:=bU.1 nn
 have hpv:pc∉gQ v:=fun q=>n0 (av _ q)
 have hpa:pc∉ay A:=fun q=>n0 (aB _ q)
 have kk:Keep (pc::gQ v) w w':=by rw[hw'];exact(k.mono (fun _ q=>aj _ q)).setCell (p:=⟨pc,2,none⟩) (.inl sI) _
 have hpc:=h.c.lt
 have hpv':pc∉gQ v':=fun q=>by
  rcases hv' _ q with r|r
  ·exact hpv r
  ·omega
 have key: ∀y∈cay pc v' (A.take i++p::A.drop i),y=pc∨y∈gQ v'∨y=p.1∨y=p.2∨y∈ay A:=fun y hy=>by
  rcases aC.1 hy with q|q
  ·exact .inl q
  ·rcases aF.1 q with r|r
   ·exact .inr (.inl r)
   ·have:=(sH A i p).mem_iff.1 r
    simp at this
    rcases this with t|t|t
    ·exact .inr (.inr (.inl t))
    ·exact .inr (.inr (.inr (.inl t)))
    ·exact .inr (.inr (.inr (.inr t)))
 have hal: ∀y∈ay A,B≤y∧y<w.heap.size:=fun y hy=>h.lim y (aj _ (aB _ hy))
 have hvl: ∀y∈gQ v',B≤y∧y<w'.heap.size:=fun y hy=>by
  have:=gV own hy
  refine⟨this.1,?_⟩
  rw[hw'];simpa using this.2
 have e1:(C.take i++s::C.drop i).length=C.length+1:=by simp;omega
 refine⟨⟨?_,?_,?_,fun j r z hr hz=> ?_,fun y hy=> ?_,?_,fun y hy=> ?_⟩,kk,fun y hy=> ?_⟩
 ·rw[hw']
  have:=(h.c.keep k hpv).store 2 v' sI
  exact this
 ·rw[e1,hw']
  exact iB own ((Keep.refl [pc] _).setCell (p:=⟨pc,2,none⟩) (.inl sI) _) (fun x hx q=>by simp at hx;subst hx;exact hpv' q)
 ·have:=h.len
  simp;omega
 ·rw[nW (by rw[h.len];exact hi)] at hr
  rw[nW hi] at hz
  have old: ∀j r z,A[j]?=some r→C[j]?=some z→jZ w' r z:=fun j r z hr hz=>by
   have hm:=aA hr
   have a1:r.1∈ay A:=jq.2 ⟨r,hm,.inl rfl⟩
   have a2:r.2∈ay A:=jq.2 ⟨r,hm,.inr rfl⟩
   refine(h.sl j r z hr hz).keep kk (fun q=> ?_) (fun q=> ?_)
   ·rcases aC.1 q with t|t
    ·exact hpa (t▸a1)
    ·exact nx _ t _ a1 rfl
   ·rcases aC.1 q with t|t
    ·exact hpa (t▸a2)
    ·exact nx _ t _ a2 rfl
  split at hr
  ·rename_i q
   rw[if_pos q] at hz
   exact old j r z hr hz
  ·rename_i q
   rw[if_neg q] at hz
   split at hr
   ·rename_i t
    rw[if_pos t] at hz
    obtain rfl:=aI hr
    obtain rfl:=aI hz
    refine hs.keep kk (fun q=> ?_) (fun q=> ?_)
    ·rcases aC.1 q with t|t
     ·exact n1 (t▸aD ..)
     ·exact n1 (aj _ (av _ t))
    ·rcases aC.1 q with t|t
     ·exact n2 (t▸aD ..)
     ·exact n2 (aj _ (av _ t))
   ·rename_i t
    rw[if_neg t] at hz
    exact old _ r z hr hz
 ·rcases key y hy with q|q|q|q|q
  ·have:=h.mem pc (aD ..)
   subst q;simp[this]
  ·simp[q]
  ·simp[q]
  ·simp[q]
  ·have:=h.mem y (aj _ (aB _ q))
   simp[this]
 ·refine bL.2 ⟨fun q=> ?_,bU.2 ⟨?_,(sH A i p).nodup_iff.2 ?_,fun a ha b hb hab=> ?_⟩⟩
  ·rcases aF.1 q with r|r
   ·exact hpv' r
   ·have:=(sH A i p).mem_iff.1 r
    simp at this
    rcases this with t|t|t
    ·exact n1 (t▸aD ..)
    ·exact n2 (t▸aD ..)
    ·exact hpa t
  ·unfold gQ;cases v'.ownBlock<;>simp
  ·refine bL.2 ⟨fun q=> ?_,bL.2 ⟨fun q=> ?_,na⟩⟩
   ·rcases aC.1 q with t|t
    ·exact n12 t
    ·exact n1 (aj _ (aB _ t))
   ·exact n2 (aj _ (aB _ q))
  ·subst hab
   have hb':=(sH A i p).mem_iff.1 hb
   have hsl:p.1<w.heap.size∧p.2<w.heap.size:=⟨hs.1.lt,hs.2.lt⟩
   rcases hv' a ha with r|r
   ·simp at hb'
    rcases hb' with t|t|t
    ·exact n1 (t▸aj _ (av _ r))
    ·exact n2 (t▸aj _ (av _ r))
    ·exact nx _ r _ t rfl
   ·simp at hb'
    rcases hb' with t|t|t
    ·omega
    ·omega
    ·have:=hal _ t;omega
 ·have hz:w.heap.size≤w'.heap.size:=kk.size
  rcases key y hy with q|q|q|q|q
  ·have:=h.lim pc (aD ..)
   subst q;exact⟨this.1,om⟩
  ·exact hvl y q
  ·subst q;have:=hs.1.lt;exact⟨b1,om⟩
  ·subst q;have:=hs.2.lt;exact⟨b2,om⟩
  ·have:=hal y q;exact⟨this.1,om⟩
 ·rcases key y hy with q|q|q|q|q
  ·exact .inl (by subst q;exact aD ..)
  ·rcases hv' y q with r|r
   ·exact .inl (aj _ (av _ r))
   ·exact .inr (.inr (.inr r))
  ·exact .inr (.inl q)
  ·exact .inr (.inr (.inl q))
  ·exact .inl (aj _ (aB _ q))
end
end
end Go.Proofs.YtdcbhlcbiokbeaaGreatDoor
