/- Lemmas and contracts for the claim's last text: RZNew, PDep. -/
import Derived.Test.YtehhldljdakgeaaGreatDoorQa01
import Derived.Test.YtehhldljdakgeaaGreatDoorQa25
import Derived.Test.YtehhldljdakgeaaGreatDoorQa27
set_option linter.unusedSimpArgs false
set_option linter.unusedVariables false
set_option maxHeartbeats 16000000
set_option maxRecDepth 100000
namespace Go.Proofs.YtehhldljdakgeaaGreatDoor
open Go.RowKit Go.Maps
attribute [local go_sem ↓] aJ aK
theorem Rc (M:List Nat) (m:Nat):rJ (M++[m])=rJ M++[.pointer (some ⟨m,0,none⟩)]:=by simp[rJ]
theorem elRBud:El 187 190 (.pointer none) 8:=⟨Tryz.underlying187,kR,rfl,om⟩
theorem cfg_far {P:List Int} {N:List (List Int)} {mn lw hi:Int} (h:tJ P N mn lw hi=0): ∀l∈N,∀x∈l,0≤x∧x≤1000:=by
 have hb:yU P N mn lw hi=true:=by
  cases hq:yU P N mn lw hi with
  |true=>rfl
  |false=>rw[xE hq] at h;cases h
 unfold yU at hb;simp only[bV] at hb;have hf:N.any uQ=false:=by simpa using hb.1.2
 intro l hl x hx;have h1:=iA.1 hf l hl;have h2:l.any qD=false:=by simpa[uQ] using h1
 have h3:=iA.1 h2 x hx;unfold qD at h3;simp at h3;omega
def rX (Y:List Nat) (pm:Nat) (vn vo:Value) (M:List Nat):List Nat:=pm::(jF vn++jF vo++M++Y)
theorem ni {Y:List Nat} {pm:Nat} {vn vo:Value} {M:List Nat} {y:Nat}:y∈rX Y pm vn vo M↔y=pm∨y∈jF vn∨y∈jF vo∨y∈M∨y∈Y:=by unfold rX;simp[or_assoc]
structure RSt (Y:List Nat) (w0 w:World) (pm:Nat) (cs:List Value) (vn vo:Value) (ns:List Int) (M:List Nat) (us:List Value) (Ds:List (List Int)):Prop where
 c5:cs.length=5
 z:jD w pm (cs++[vn,vo])
 on:w.ownsRow (w0.heap.size+2) 190 1 vn M.length (rJ M)
 oo:w.ownsRow (w0.heap.size+2) 59 1 vo us.length us
 lD:Ds.length=us.length
 bud: ∀(j m:Nat) (n:Int),M[j]?=some m→ns[j]?=some n→∃v,uZ (rX Y pm vn vo M) w m n v (.slice none 0 0) (uH 0 n) []
 row: ∀(j:Nat) (u:Value) (D:List Int),us[j]?=some u→Ds[j]?=some D→nC (rX Y pm vn vo M) w u (ints D)
 ne: ∀y∈jF vn,y∉jF vo
 nm:M.Nodup∧∀m∈M,m≠pm∧m∉jF vn∧m∉jF vo
 pl:w0.heap.size<pm∧pm<w0.heap.size+2
 lm: ∀m∈M,w0.heap.size+2≤m∧m<w.heap.size
section
variable {Y:List Nat} {w0 w w':World} {pm:Nat} {cs:List Value} {vn vo:Value} {ns:List Int} {M:List Nat} {us:List Value} {Ds:List (List Int)}
theorem RSt.node (h:RSt Y w0 w pm cs vn vo ns M us Ds) {w1 W1 w4 w5:World} {m:Nat} {n:Int} {v vn':Value} (b1:Below w.heap.size w w1) (hs:w0.heap.size+2≤w.heap.size) (hb:uZ (m::rX Y pm vn vo M) w1 m n v (.slice none 0 0) (uH 0 n) []) (hm:w.heap.size≤m) (hn:ns[M.length]?=some n)
 (k1:Keep [] w1 W1) (hg:W1.grownBy w4 vn.ownBlock) (ho:vn'.ownBlock=vn.ownBlock∨vn'.ownBlock=some W1.heap.size) (hw:w4.ownsRow (w0.heap.size+2) 190 1 vn' (M.length+1) (rJ M++[.pointer (some ⟨m,0,none⟩)])) (e5:w5=w4.setCell ⟨pm,5,none⟩ vn'):
 RSt Y w0 w5 pm cs vn' vo ns (M++[m]) us Ds∧Keep (pm::jF vn) w w5:=by
 have kA:Keep (jF vn) w1 w4:=(k1.mono (fun _ q=>by cases q)).then (jS hg);have kB:Keep (pm::jF vn) w1 w5:=by rw[e5];exact(kA.mono (fun _ q=>ak _ q)).setCell (p:=⟨pm,5,none⟩) (.inl sI) _
 have kC:Keep (pm::jF vn) w w5:=(Keep.of b1).then kB;have z1:=b1.size;have ml:=hb.lt;have hpm:pm<w.heap.size:=by have:=h.pl;omega
 have hvn: ∀y∈jF vn,w0.heap.size+2≤y∧y<w.heap.size:=fun y hy=>jP h.on hy
 have hvo: ∀y∈jF vo,w0.heap.size+2≤y∧y<w.heap.size:=fun y hy=>jP h.oo hy
 have hvn': ∀y∈jF vn',y∈jF vn∨y=W1.heap.size:=fun y hy=>by
  rw[nQ] at hy ⊢;rcases ho with e|e
  ·exact .inl (e▸hy)
  ·rw[e] at hy;injection hy with hy;exact .inr hy.symm
 have hW:w1.heap.size≤W1.heap.size:=k1.size;have hpo:pm∉jF vn:=fun q=>by have:=hvn _ q;have:=h.pl;omega
 have hpo2:pm∉jF vo:=fun q=>by have:=hvo _ q;have:=h.pl;omega
 have key: ∀y∈rX Y pm vn' vo (M++[m]),y∈m::rX Y pm vn vo M∨y=W1.heap.size:=fun y hy=>by
  rcases ni.1 hy with rfl|q|q|q|q
  ·exact .inl (by simp[ni])
  ·rcases hvn' y q with r|r
   ·exact .inl (ak _ (ni.2 (.inr (.inl r))))
   ·exact .inr r
  ·exact .inl (ak _ (ni.2 (.inr (.inr (.inl q)))))
  ·rcases aD.1 q with r|r
   ·exact .inl (ak _ (ni.2 (.inr (.inr (.inr (.inl r))))))
   ·simp at r;subst r;exact .inl sI
  ·exact .inl (ak _ (ni.2 (.inr (.inr (.inr (.inr q))))))
 have hS: ∀s∈pm::jF vn,s∈rX Y pm vn vo M:=fun s q=>by
  rcases aB.1 q with rfl|q
  ·exact ni.2 (.inl rfl)
  ·exact ni.2 (.inr (.inl q))
 have keepB: ∀{m':Nat} {n':Int} {v':Value} {wx:World},uZ (m::rX Y pm vn vo M) wx m' n' v' (.slice none 0 0) (uH 0 n') []→wx.heap.size≤W1.heap.size→Keep (pm::jF vn) wx w5→m'∉pm::jF vn→m'∈rX Y pm vn' vo (M++[m])→uZ (rX Y pm vn' vo (M++[m])) w5 m' n' v' (.slice none 0 0) (uH 0 n') []:=by
  intro m' n' v' wx hb' hx hk hn' hmm;have h1:=hb'.more (Y:=W1.heap.size::m::rX Y pm vn vo M) (ak _ hb'.mem) (fun y hy=>by
   rcases aB.1 hy with rfl|q
   ·exact .inr hx
   ·exact .inl q)
  have h2:=h1.keep hk (fun s q=>.inl ⟨ak _ (ak _ (hS s q)),fun e=>hn' (e▸q)⟩);exact h2.sub hmm (fun y hy=>by
   rcases key y hy with q|q
   ·exact ak _ q
   ·rw[q];exact aG ..)
 have keepR: ∀{u:Value} {D:List Int},nC (rX Y pm vn vo M) w u (ints D)→nC (rX Y pm vn' vo (M++[m])) w5 u (ints D):=by
  intro u D hr;have h1:=hr.more (Y:=W1.heap.size::m::rX Y pm vn vo M) (fun y hy=>by
   rcases aB.1 hy with rfl|q
   ·exact .inr om
   ·rcases aB.1 q with rfl|q
    ·exact .inr hm
    ·exact .inl q)
  have h2:=h1.keep kC (fun s q=>.inl (ak _ (ak _ (hS s q))));exact h2.sub (fun y hy=>by
   rcases key y hy with q|q
   ·exact ak _ q
   ·rw[q];exact aG ..)
 have hz4:jD w4 pm (cs++[vn,vo]):=((h.z.go b1).keep k1 sI).keep (jS hg) hpo;have hz5:jD w5 pm (cs++[vn',vo]):=by
  rw[e5];have:=hz4.store 5 vn' (by simp[h.c5]);rwa [show(cs++[vn,vo]).set 5 vn'=cs++[vn',vo] by rw[ji _ _ (by rw[h.c5];omega),h.c5];rfl] at this
 have own5:w5.ownsRow (w0.heap.size+2) 190 1 vn' (M.length+1) (rJ M++[.pointer (some ⟨m,0,none⟩)]):=by
  rw[e5];exact jE hw ((Keep.refl [pm] _).setCell (p:=⟨pm,5,none⟩) (.inl sI) _) (fun x hx q=>by
   simp at hx;subst hx;have:=jP hw q;have:=h.pl;omega)
 refine⟨⟨h.c5,hz5,by rw[aV,Rc];exact own5,jE h.oo kC (fun x hx q=> ?_),h.lD,fun j m' n' hm' hn'=> ?_,fun j u D hu hD=>keepR (h.row j u D hu hD),fun y hy q=> ?_,⟨?_,fun m' hm'=> ?_⟩,h.pl,fun m' hm'=> ?_⟩,kC⟩
 ·rcases aB.1 hx with rfl|r
  ·exact hpo2 q
  ·exact h.ne x r q
 ·by_cases e:j=M.length
  ·subst e
   rw[bK (aH _)] at hm';simp at hm';subst hm';rw[hn] at hn';obtain rfl:=aI hn';refine⟨v,keepB hb hW kB (fun q=> ?_) (ni.2 (.inr (.inr (.inr (.inl sI)))))⟩;rcases aB.1 q with r|r
   ·omega
   ·have:=hvn _ r;omega
  ·have hjl:j<M.length:=by
    have:=(au.1 hm').1;simp at this;omega
   rw[bG hjl] at hm';obtain⟨v',hb'⟩:=h.bud j m' n' hm' hn';have hmM:=aF hm';refine⟨v',keepB (hb'.more (ak _ hb'.mem) (fun y hy=>by
    rcases aB.1 hy with rfl|q
    ·exact .inr hm
    ·exact .inl q)) om kC (fun q=> ?_) (ni.2 (.inr (.inr (.inr (.inl (av _ hmM))))))⟩
   rcases aB.1 q with r|r
   ·exact(h.nm.2 m' hmM).1 r
   ·exact(h.nm.2 m' hmM).2.1 r
 ·rcases hvn' y hy with r|r
  ·exact h.ne y r q
  ·have:=hvo y q;omega
 ·exact bD.2 ⟨h.nm.1,sI,fun a ha b hb2=>by simp at hb2;subst hb2;have:=h.lm a ha;omega⟩
 ·rcases aD.1 hm' with q|q
  ·refine⟨(h.nm.2 m' q).1,fun r=> ?_,(h.nm.2 m' q).2.2⟩
   rcases hvn' m' r with s|s
   ·exact(h.nm.2 m' q).2.1 s
   ·have:=(h.lm m' q).2;omega
  ·simp at q;subst q
   refine⟨om,fun r=> ?_,fun r=>by have:=hvo _ r;omega⟩;rcases hvn' m' r with s|s
   ·have:=hvn _ s;omega
   ·omega
 ·have:=kC.size
  rcases aD.1 hm' with q|q
  ·have:=h.lm m' q;omega
  ·simp at q;subst q
   have:=kB.size;omega
theorem RSt.order (h:RSt Y w0 w pm cs vn vo ns M us Ds) {w1 W1 w4 w5:World} {u vo':Value} {D:List Int} (b1:Below w.heap.size w w1) (hs:w0.heap.size+2≤w.heap.size) (hr:nC [] w1 u (ints D)) (hg1: ∀g,g∈jF u→w.heap.size≤g) (hru:nC (rX Y pm vn vo M) w1 u (ints D))
 (k1:Keep [] w1 W1) (hg:W1.grownBy w4 vo.ownBlock) (ho:vo'.ownBlock=vo.ownBlock∨vo'.ownBlock=some W1.heap.size) (hw:w4.ownsRow (w0.heap.size+2) 59 1 vo' (us.length+1) (us++[u])) (e5:w5=w4.setCell ⟨pm,6,none⟩ vo'):
 RSt Y w0 w5 pm cs vn vo' ns M (us++[u]) (Ds++[D])∧Keep (pm::jF vo) w w5:=by
 have kA:Keep (jF vo) w1 w4:=(k1.mono (fun _ q=>by cases q)).then (jS hg);have kB:Keep (pm::jF vo) w1 w5:=by rw[e5];exact(kA.mono (fun _ q=>ak _ q)).setCell (p:=⟨pm,6,none⟩) (.inl sI) _
 have kC:Keep (pm::jF vo) w w5:=(Keep.of b1).then kB;have z1:=b1.size;have hpm:pm<w.heap.size:=by have:=h.pl;omega
 have hvn: ∀y∈jF vn,w0.heap.size+2≤y∧y<w.heap.size:=fun y hy=>jP h.on hy
 have hvo: ∀y∈jF vo,w0.heap.size+2≤y∧y<w.heap.size:=fun y hy=>jP h.oo hy
 have hvo': ∀y∈jF vo',y∈jF vo∨y=W1.heap.size:=fun y hy=>by
  rw[nQ] at hy ⊢;rcases ho with e|e
  ·exact .inl (e▸hy)
  ·rw[e] at hy;injection hy with hy;exact .inr hy.symm
 have hW:w1.heap.size≤W1.heap.size:=k1.size;have hpo:pm∉jF vo:=fun q=>by have:=hvo _ q;have:=h.pl;omega
 have hpo2:pm∉jF vn:=fun q=>by have:=hvn _ q;have:=h.pl;omega
 have key: ∀y∈rX Y pm vn vo' M,y∈rX Y pm vn vo M∨y=W1.heap.size:=fun y hy=>by
  rcases ni.1 hy with rfl|q|q|q|q
  ·exact .inl (ni.2 (.inl rfl))
  ·exact .inl (ni.2 (.inr (.inl q)))
  ·rcases hvo' y q with r|r
   ·exact .inl (ni.2 (.inr (.inr (.inl r))))
   ·exact .inr r
  ·exact .inl (ni.2 (.inr (.inr (.inr (.inl q)))))
  ·exact .inl (ni.2 (.inr (.inr (.inr (.inr q)))))
 have hS: ∀s∈pm::jF vo,s∈rX Y pm vn vo M:=fun s q=>by
  rcases aB.1 q with rfl|q
  ·exact ni.2 (.inl rfl)
  ·exact ni.2 (.inr (.inr (.inl q)))
 have keepR: ∀{u:Value} {D:List Int} {wx:World},nC (rX Y pm vn vo M) wx u (ints D)→wx.heap.size≤W1.heap.size→Keep (pm::jF vo) wx w5→nC (rX Y pm vn vo' M) w5 u (ints D):=by
  intro u D wx hr hx hk;have h1:=hr.more (Y:=W1.heap.size::rX Y pm vn vo M) (fun y hy=>by
   rcases aB.1 hy with rfl|q
   ·exact .inr hx
   ·exact .inl q)
  have h2:=h1.keep hk (fun s q=>.inl (ak _ (hS s q)));exact h2.sub (fun y hy=>by
   rcases key y hy with q|q
   ·exact ak _ q
   ·rw[q];exact aG ..)
 have hz4:jD w4 pm (cs++[vn,vo]):=((h.z.go b1).keep k1 sI).keep (jS hg) hpo;have hz5:jD w5 pm (cs++[vn,vo']):=by
  rw[e5];have:=hz4.store 6 vo' (by simp[h.c5]);rwa [show(cs++[vn,vo]).set 6 vo'=cs++[vn,vo'] by rw[ji _ _ (by rw[h.c5];omega),h.c5];rfl] at this
 have own5:w5.ownsRow (w0.heap.size+2) 59 1 vo' (us.length+1) (us++[u]):=by
  rw[e5];exact jE hw ((Keep.refl [pm] _).setCell (p:=⟨pm,6,none⟩) (.inl sI) _) (fun x hx q=>by
   simp at hx;subst hx;have:=jP hw q;have:=h.pl;omega)
 refine⟨⟨h.c5,hz5,jE h.on kC (fun x hx q=> ?_),by rw[aV];exact own5,by simp[h.lD],fun j m' n' hm' hn'=> ?_,fun j u' D' hu hD=> ?_,fun y hy q=> ?_,⟨h.nm.1,fun m' hm'=> ?_⟩,h.pl,fun m' hm'=>⟨(h.lm m' hm').1,aC (h.lm m' hm').2 kC.size⟩⟩,kC⟩
 ·rcases aB.1 hx with rfl|r
  ·exact hpo2 q
  ·exact h.ne x q r
 ·obtain⟨v',hb'⟩:=h.bud j m' n' hm' hn'
  have hmM:=aF hm';have h1:=hb'.more (Y:=W1.heap.size::rX Y pm vn vo M) (ak _ hb'.mem) (fun y hy=>by
   rcases aB.1 hy with rfl|q
   ·exact .inr om
   ·exact .inl q)
  have h2:=h1.keep kC (fun s q=>.inl ⟨ak _ (hS s q),fun e=>by
   rw[e] at q;rcases aB.1 q with r|r
   ·exact(h.nm.2 m' hmM).1 r
   ·exact(h.nm.2 m' hmM).2.2 r⟩)
  exact⟨v',h2.sub (ni.2 (.inr (.inr (.inr (.inl hmM))))) (fun y hy=>by
   rcases key y hy with q|q
   ·exact ak _ q
   ·rw[q];exact aG ..)⟩
 ·by_cases e:j=us.length
  ·subst e
   rw[bK (aH _)] at hu;rw[bK (by rw[h.lD];exact aH _),h.lD] at hD;simp at hu hD;subst hu hD;exact keepR hru hW kB
  ·have hjl:j<us.length:=by
    have:=(au.1 hu).1;simp at this;omega
   rw[bG hjl] at hu;rw[bG (by rw[h.lD];exact hjl)] at hD;exact keepR (h.row j u' D' hu hD) om kC
 ·rcases hvo' y q with r|r
  ·exact h.ne y hy r
  ·have:=hvn y hy;omega
 ·refine⟨(h.nm.2 m' hm').1,(h.nm.2 m' hm').2.1,fun r=> ?_⟩
  rcases hvo' m' r with s|s
  ·exact(h.nm.2 m' hm').2.2 s
  ·have:=(h.lm m' hm').2;omega
end
def Ou (Y:List Nat) (mn lw hi:Int) (O:List (List Int)) (L:List Nd) (w:World) (e:Ending) (w':World):Prop:=
 ∃(X M:List Nat) (pm gN:Nat),e= .returned (.pointer (some ⟨pm,0,none⟩))∧RZ X w' pm gN mn lw hi O M L∧(∀x∈X,(x∈Y∨w.heap.size≤x)∧x<w'.heap.size)∧(∀y∈Y,y∈X)∧(pm∉Y∧gN∉Y∧∀m∈M,m∉Y)∧Below w.heap.size w w'
theorem Iu (Y:List Nat) (vP vN:Value) (P:List Int) (N:List (List Int)) (mn lw hi:Int) (O:List (List Int)) (L:List Nd) (w:World) (hY: ∀y∈Y,y<w.heap.size) (h:Cfg [] w vP vN P N) (hc:tJ P N mn lw hi=0) (hhi:hi≤9223372036854775807)
 (hL:L.map (·.n)=P) (hF: ∀x∈L,x.F=uH 0 x.n∧x.T=[]) (hI: ∀x∈L,Inv x.n x.F x.T) (hO:qY O L.length) (hD: ∀(i:Nat) (l D:List Int),N[i]?=some l→O[i]?=some D→rV l P.length D):
 Calls Tryz.prog 49 #[.agg #[vP,vN,.int .i64 mn,.int .i64 lw,.int .i64 hi]] w (Ou Y mn lw hi O L w):=by
 obtain⟨c1,c2,c3,c4,c5,c6,c7,c8⟩:=cfg_ok hc;obtain⟨p,cap,rfl,hcp,hmx,hcl⟩:=h.p.int;obtain⟨q,k,rfl,hck,hkm,_⟩:=h.n.form;have HY:=ah hY;have CLl:=ah hcl;have C3:=ah c3;have C4:=ah c4;have C5:=ah c5;have HLN:Hid (L.length=P.length):=by show _=_;rw[←hL,gF]
 have HMM:=ah hL;have HF:=ah hF;have HI:=ah hI;have HO:=ah hO;have HD:=ah hD;have CR:Hid (∀l∈N,∀x∈l,0≤x∧x≤1000):=cfg_far hc;obtain⟨n,hn⟩:=eY P.length;have EN:=ah hn;rw[c4,←hn] at hck ⊢;have HH:Hid (Cfg [] w (.slice p n cap) (.slice q n k) P N):=by show Cfg _ _ _ _ _ _;rw[c4,←hn] at h;exact h
 rw[←hn] at hcp c1 c2;have L0:=ah ((jD.mk_ w [.slice p n cap,.slice q n k,.int .i64 mn,.int .i64 lw,.int .i64 hi] 98 rfl).past (.cells #[.slice p n cap,.slice q n k,.int .i64 mn,.int .i64 lw,.int .i64 hi,.slice none 0 0,.slice none 0 0] 189));have Z0:=jD.mk_ (w.alloc (.cells [.slice p n cap,.slice q n k,.int .i64 mn,.int .i64 lw,.int .i64 hi].toArray 98)) [.slice p n cap,.slice q n k,.int .i64 mn,.int .i64 lw,.int .i64 hi,.slice none 0 0,.slice none 0 0] 189 (b:=w.heap.size+1) sI;have S0:Hid (RSt Y w ((w.alloc (.cells [.slice p n cap,.slice q n k,.int .i64 mn,.int .i64 lw,.int .i64 hi].toArray 98)).alloc (.cells [.slice p n cap,.slice q n k,.int .i64 mn,.int .i64 lw,.int .i64 hi,.slice none 0 0,.slice none 0 0].toArray 189)) (w.heap.size+1) [.slice p n cap,.slice q n k,.int .i64 mn,.int .i64 lw,.int .i64 hi] (.slice none 0 0) (.slice none 0 0) P [] [] []):=
  ⟨rfl,Z0,aT _ _ _ _,aT _ _ _ _,rfl,fun j m x hm=>by simp at hm,fun j u D hu=>by simp at hu,fun y hy=>by simp[jF,Value.ownBlock] at hy,⟨eF,fun m hm=>by cases hm⟩,⟨om,om⟩,fun m hm=>by cases hm⟩
 have B0:Hid (Below w.heap.size w ((w.alloc (.cells [.slice p n cap,.slice q n k,.int .i64 mn,.int .i64 lw,.int .i64 hi].toArray 98)).alloc (.cells [.slice p n cap,.slice q n k,.int .i64 mn,.int .i64 lw,.int .i64 hi,.slice none 0 0,.slice none 0 0].toArray 189))):=jK;unfold maxLen at hmx hkm;clear hY h hc hL hF hI hO hD hcl c3 c4 c5 Z0 hn;go_enter Tryz.func49,Tryz.ntmps49;go_wp2_with fail;go_loopw [4] (fun iv wr=>∃(i:Nat) (qn qo:Option Addr) (kn ko:Nat) (M:List Nat) (us:List Value),i≤n∧iv= .int .i64 i∧Hid (M.length=i∧us.length=i)∧Hid (RSt Y w wr (w.heap.size+1) [.slice p n cap,.slice q n k,.int .i64 mn,.int .i64 lw,.int .i64 hi] (.slice qn i kn) (.slice qo i ko) P M us (O.take i))∧Hid (jD wr w.heap.size [.slice p n cap,.slice q n k,.int .i64 mn,.int .i64 lw,.int .i64 hi])∧Below w.heap.size w wr∧w.heap.size+2≤wr.heap.size) (fun iv _=>n-(intOf iv).toNat);case atStart=>exact⟨0,none,none,0,0,[],[],bq _,by go_num,⟨rfl,rfl⟩,S0,L0,B0.out,sI⟩
 case round=>
  obtain⟨i,qn,qo,kn,ko,M,us,hin,rfl,HLEN,HR,HC,hbel,hsz⟩:=hrel;clear L0 S0 B0;by_cases hlt:i<n
  ·obtain⟨x,hx⟩: ∃x,P[i]?=some x:=⟨P[i]'(by rw[←EN.out];exact hlt),aA _⟩
   obtain⟨gp,op,rfl,_,hgp,hcx⟩:=CLl.out i x hx;have r1:=(hbel.cell (p:=⟨gp,op+i,none⟩) hgp).trans hcx;have gr:gp<wr.heap.size:=om;have hxr:=C3.out x (aF hx);have i0:(0:Int)≤(i:Int):=om;have i1:(i:Int)<(n:Int):=om;have hst:=HR.out;have RX:Hid (∀y∈rX Y (w.heap.size+1) (.slice qn i kn) (.slice qo i ko) M,y<wr.heap.size):=fun y hy=>by
    rcases ni.1 hy with rfl|q|q|q|q
    ·omega
    ·exact(jP hst.on q).2
    ·exact(jP hst.oo q).2
    ·exact(hst.lm y q).2
    ·have:=HY.out y q;have:=hbel.size;omega
   have NB:Hid (∀W,Below wr.heap.size wr W→Calls Tryz.prog 92 #[.int .i64 x] W fun e w'=>∃m v,e= .returned (.pointer (some ⟨m,0,none⟩))∧uZ (m::rX Y (w.heap.size+1) (.slice qn i kn) (.slice qo i ko) M) w' m x v (.slice none 0 0) (uH 0 x) []∧W.heap.size≤m∧Below W.heap.size W w'):=fun W hW=>Io x W hxr.1 hxr.2 (fun y hy=>aC (RX.out y hy) hW.size)
   have HX:=ah hx;have z0:=hst.z;have z5:=z0.gC 5;have z6:=z0.gC 6;have zl:=z0.lt;have a0:=HC.out.gC 0;have a1:=HC.out.gC 1;have a2:=HC.out.gC 2;have a3:=HC.out.gC 3;have a4:=HC.out.gC 4;have al:=HC.out.lt;have ZB:Hid (∀W,Below wr.heap.size wr W→W.cell? ⟨w.heap.size+1,5,none⟩=some (.slice qn i kn)∧w.heap.size+1<W.heap.size):=fun W hW=>⟨(hW.cell (p:=⟨w.heap.size+1,5,none⟩) zl).trans z5,aC zl hW.size⟩
   clear hx hcx hst z0;go_wp2_with fail;have ML:Hid (M.length=i):=HLEN.out.1;have UL:Hid (us.length=i):=HLEN.out.2;have ON:Hid (∀W,Keep [] wr W→W.ownsRow (w.heap.size+2) 190 1 (.slice qn i kn) (rJ M).length (rJ M)):=fun W k=>by rw[p9,ML.out];have:=jE HR.out.on k (fun x hx=>by cases hx);rwa [ML.out] at this
   have MPL:Hid ((rJ M).length+1=i+1):=by show _=_;rw[p9,ML.out]
   have CC:Hid (∀W,Below wr.heap.size wr W→W.cell? ⟨w.heap.size,0,none⟩=some (.slice (some ⟨gp,op,none⟩) n cap)∧W.cell? ⟨gp,op+i,none⟩=some (.int .i64 x)):=fun W hW=>⟨(hW.cell (p:=⟨w.heap.size,0,none⟩) al).trans a0,(hW.cell (p:=⟨gp,op+i,none⟩) gr).trans r1⟩
   have HOW:Hid (∀b,b<w.heap.size+2→b∉jF (.slice qn i kn)):=fun b hb q=>by have:=(jP HR.out.on q).1;omega
   have ne1:w.heap.size+1≠gp:=om;have ZF:Hid (∀W,Below wr.heap.size wr W→W.frozen? ⟨w.heap.size+1,5,none⟩=false):=fun W hW=>(hW.frozen (p:=⟨w.heap.size+1,5,none⟩) zl).trans (HR.out.z.f 5 sI)
   refine jN (S:=(fun w'=>w'.cell? ⟨w.heap.size,0,none⟩=some (.slice (some ⟨gp,op,none⟩) n cap)∧w'.cell? ⟨gp,op+i,none⟩=some (.int .i64 x)∧w'.cell? ⟨w.heap.size+1,5,none⟩=some (.slice qn i kn))) 15 #[false,false,false,false,false,false,false,false,false,false,false,false,false,false,false] rfl kR kR (by(try dsimp only);go_keep) (fun hHeld=> ?_);simp only[aQ,aW];refine tk 0 ?_;try simp only[Act.put,pA,pZ,pS]
   refine tk 1 ?_;try simp only[Act.put,pA,pZ,pS]
   refine tk 2 ?_;try simp only[Act.put,pA,pZ,pS]
   refine tk 3 ?_;try simp only[Act.put,pA,pZ,pS]
   refine tk 4 ?_;try simp only[Act.put,pA,pZ,pS]
   refine tk 5 ?_;try simp only[Act.put,pA,pZ,pS]
   refine tk 6 ?_;try simp only[Act.put,pA,pZ,pS]
   refine tk 7 ?_;try simp only[Act.put,pA,pZ,pS]
   refine tk 8 ?_;try simp only[Act.put,pA,pZ,pS]
   refine tk 9 ?_;try simp only[Act.put,pA,pZ,pS]
   refine wpAnyH_ready (rs:=[10]) kR sI ?_;refine aR (jH rfl) (fun K hK=> ?_) aX;go_simp
   go_at_call 92
   refine(NB.out _ jK).mono ?_;rintro e w2 ⟨m,v,rfl,EA,hm,hb2⟩;have B2:Below wr.heap.size wr w2:=fU jK (hb2.mono sI);have y5:=(ZB.out w2 B2).1;have yl:=(ZB.out w2 B2).2;have x0:=(CC.out w2 B2).1;have x1:=(CC.out w2 B2).2;refine hK.out _ _ (by(try dsimp only);go_keep) (fun hHeld=> ?_);clear hK K;try simp only[Act.put,pA,pZ,pS]
   refine wpAnyH_ready (rs:=[11]) kR sI ?_;refine aR (jH rfl) (fun K hK=> ?_) aX;go_simp
   refine hK.out _ _ (by(try dsimp only);go_keep) (fun hHeld=> ?_);clear hK K;try simp only[Act.put,pA,pZ,pS]
   refine wpAnyH_ready (rs:=[12]) kR sI ?_;refine aR (jH rfl) (fun K hK=> ?_) aX;refine qC (base:=w.heap.size+2) (v:=.slice qn i kn) (us:=rJ M) (ms:=[.pointer (some ⟨m,0,none⟩)]) elRBud rf (.tmp 19) (.tmp 26) rf rf 1 rf rfl (ON.out _ (kep (Keep.of B2))) (by refine DR ?_;(try simp only[fP]);rw[aZ _ _ _ _ (by first|omega|(simp;omega)|(simp;done))];rfl) (by intro x hx;simp at hx;subst hx;rfl) (by have:=MPL.out;simp at this ⊢;omega) (by have:=B2.size;simp at*;omega) ?_;intro qn' kn' w4 jV hg4 ho4;have k4:Keep (jF (.slice qn i kn)) w2 w4:=(show Keep (jF (.slice qn i kn)) w2 _ from(kep (Keep.refl _ _))).then (jS hg4);have u0:=(k4.cell (b:=w.heap.size) (o:=0) (by have:=B2.size;omega) (HOW.out _ om)).trans x0;have u1:=(k4.cell (b:=gp) (o:=op+i) (by have:=B2.size;omega) (HOW.out _ om)).trans x1;have u5:=(k4.cell (b:=w.heap.size+1) (o:=5) yl (HOW.out _ om)).trans y5;have f5:=(k4.frozen (b:=w.heap.size+1) (o:=5) yl (HOW.out _ om)).trans (ZF.out w2 B2);refine hK.out _ _ (by(try dsimp only);go_keep) (fun hHeld=> ?_);clear hK K;try simp only[Act.put,pA,pZ,pS]
   refine tk 13 ?_;try simp only[Act.put,pA,pZ,pS]
   refine tk 14 ?_;try simp only[Act.put,pA,pZ,pS]
   refine wpAnyH_done kR ?_ _;simp only[nX,aP,aU];go_wp2_with fail;all_goals
    have e4:(rJ M++[Value.pointer (some ⟨m,0,none⟩)]).length=i+1:=by simp[p9,ML.out]
    have e4':(rJ M).length+1=i+1:=MPL.out;rw[e4] at jV ho4;obtain⟨w5,hw5⟩:=eY (w4.setCell ⟨w.heap.size+1,5,none⟩ (.slice qn' (i+1) kn'));have ND:=RSt.node (w5:=w5) (vn':=.slice qn' (i+1) kn') HR.out B2 hsz EA (by simpa using hm) (by rw[ML.out];exact HX.out) (show Keep [] w2 _ from(kep (Keep.refl _ _))) hg4 ho4 (by rw[ML.out];exact jV) hw5;have HR5:=ah (show RSt Y w w5 (w.heap.size+1) [.slice (some ⟨gp,op,none⟩) n cap,.slice q n k,.int .i64 mn,.int .i64 lw,.int .i64 hi] (.slice qn' (i+1) kn') (.slice qo i ko) P (M++[m]) us (O.take i) from ND.1);have K5:=ah ND.2;clear ND;simp only[e4'];rw[←hw5];have w5l:w.heap.size+2≤w5.heap.size:=by have:=K5.out.size;omega
    have B5:Below w.heap.size w w5:=by
     refine hbel.trans (K5.out.below om (fun s hs=> ?_));rcases aB.1 hs with r|r
     ·omega
     ·have:=(jP HR.out.on r).1;omega
    have HB5:=ah B5;have C5':=HC.out.keep K5.out (fun hs=>by
     rcases aB.1 hs with r|r
     ·omega
     ·have:=(jP HR.out.on r).1;omega)
    have HC5:=ah C5';obtain⟨l,hl⟩: ∃l,N[i]?=some l:=⟨N[i]'(by rw[C4.out,←EN.out];exact hlt),aA _⟩;obtain⟨D,hD,hDl,hDm⟩:=HO.out.get (i:=i) (by rw[HLN.out,←EN.out];exact hlt);have HDD:=ah hD;have FR:Hid (∀W,Below w5.heap.size w5 W→Calls Tryz.prog 93 #[.agg #[.slice (some ⟨gp,op,none⟩) n cap,.slice q n k,.int .i64 mn,.int .i64 lw,.int .i64 hi],.int .i64 i] W (Ot D W)):=fun W hW=>Gc _ _ P N mn lw hi i l D W (HH.out.below (HB5.out.trans (hW.mono om))) hl (C5.out l (aF hl)) C4.out (by rw[←EN.out];exact c2) (CR.out l (aF hl)) (HD.out i l D hl hD)
    have s0:=C5'.gC 0;have s1:=C5'.gC 1;have s2:=C5'.gC 2;have s3:=C5'.gC 3;have s4:=C5'.gC 4;have sl:=C5'.lt;have zz:=HR5.out.z;have z6':=zz.gC 6;have zl':=zz.lt;have CC5:Hid (∀W,Below w5.heap.size w5 W→jD W w.heap.size [.slice (some ⟨gp,op,none⟩) n cap,.slice q n k,.int .i64 mn,.int .i64 lw,.int .i64 hi]):=fun W hW=>HC5.out.go hW
    have ZZ5:Hid (∀W,Below w5.heap.size w5 W→jD W (w.heap.size+1) ([.slice (some ⟨gp,op,none⟩) n cap,.slice q n k,.int .i64 mn,.int .i64 lw,.int .i64 hi]++[.slice qn' (i+1) kn',.slice qo i ko])):=fun W hW=>HR5.out.z.go hW
    have OO5:Hid (∀W,Keep [] w5 W→W.ownsRow (w.heap.size+2) 59 1 (.slice qo i ko) us.length us):=fun W k=>jE HR5.out.oo k (fun x hx=>by cases hx)
    have HOW6:Hid (∀b,b<w.heap.size+2→b∉jF (.slice qo i ko)):=fun b hb q=>by have:=(jP HR5.out.oo q).1;omega
    clear z5 z6 zl a0 a1 a2 a3 a4 al r1 y5 yl x0 x1 u0 u1 u5 f5 jV ho4 hg4 k4 hw5 e4 e4' hl hD hDl hDm C5' zz B5 EA hm hb2;go_wp2_with fail;refine jN (S:=(fun w'=>w'.cell? ⟨w.heap.size,0,none⟩=some (.slice (some ⟨gp,op,none⟩) n cap)∧w'.cell? ⟨w.heap.size,1,none⟩=some (.slice q n k)∧w'.cell? ⟨w.heap.size,2,none⟩=some (.int .i64 mn)∧w'.cell? ⟨w.heap.size,3,none⟩=some (.int .i64 lw)∧w'.cell? ⟨w.heap.size,4,none⟩=some (.int .i64 hi)∧w'.cell? ⟨w.heap.size+1,6,none⟩=some (.slice qo i ko))) 12 #[false,false,false,false,false,false,false,false,false,false,false,false] rfl kR kR (by(try dsimp only);go_keep) (fun hHeld=> ?_);simp only[aQ,aW];refine tk 0 ?_;try simp only[Act.put,pA,pZ,pS]
    refine tk 1 ?_;try simp only[Act.put,pA,pZ,pS]
    refine tk 2 ?_;try simp only[Act.put,pA,pZ,pS]
    refine tk 3 ?_;try simp only[Act.put,pA,pZ,pS]
    refine tk 4 ?_;try simp only[Act.put,pA,pZ,pS]
    refine tk 5 ?_;try simp only[Act.put,pA,pZ,pS]
    refine tk 6 ?_;try simp only[Act.put,pA,pZ,pS]
    refine wpAnyH_ready (rs:=[7]) kR sI ?_;refine aR (jH rfl) (fun K hK=> ?_) aX;go_simp
    go_at_call 93
    refine(FR.out _ jK).mono ?_;rintro e w6 ⟨q6,k6,rfl,hown6,hb6⟩;have B6:Below w5.heap.size w5 w6:=fU jK (hb6.mono sI);have X6:=CC5.out w6 B6;have Z6:=ZZ5.out w6 B6;have y6:=Z6.gC 6;have yl:=Z6.lt;have x0:=X6.gC 0;have x1:=X6.gC 1;have x2:=X6.gC 2;have x3:=X6.gC 3;have x4:=X6.gC 4;have xl:=X6.lt;clear X6 Z6;refine hK.out _ _ (by(try dsimp only);go_keep) (fun hHeld=> ?_);clear hK K;try simp only[Act.put,pA,pZ,pS]
    refine wpAnyH_ready (rs:=[8]) kR sI ?_;refine aR (jH rfl) (fun K hK=> ?_) aX;go_simp
    refine hK.out _ _ (by(try dsimp only);go_keep) (fun hHeld=> ?_);clear hK K;try simp only[Act.put,pA,pZ,pS]
    refine wpAnyH_ready (rs:=[9]) kR sI ?_;refine aR (jH rfl) (fun K hK=> ?_) aX;refine qC (base:=w.heap.size+2) (v:=.slice qo i ko) (us:=us) (ms:=[.slice q6 D.length k6]) elRow rf (.tmp 34) (.tmp 38) rf rf 1 rf rfl (OO5.out _ (kep (Keep.of B6))) (by refine DR ?_;(try simp only[fP]);rw[aZ _ _ _ _ (by first|omega|(simp;omega)|(simp;done))];rfl) (by intro x hx;simp at hx;subst hx;rfl) (by have:=UL.out;simp;omega) (by have:=B6.size;simp at*;omega) ?_;intro qo' ko' w7 hown7 hg7 ho7;have k7:Keep (jF (.slice qo i ko)) w6 w7:=(show Keep (jF (.slice qo i ko)) w6 _ from(kep (Keep.refl _ _))).then (jS hg7);have X7:=(CC5.out w6 B6).keep k7 (HOW6.out _ om);have Z7:=(ZZ5.out w6 B6).keep k7 (HOW6.out _ om);have t0:=X7.gC 0;have t1:=X7.gC 1;have t2:=X7.gC 2;have t3:=X7.gC 3;have t4:=X7.gC 4;have t6:=Z7.gC 6;have f6:=Z7.f 6 sI;have tl:=Z7.lt;clear X7 Z7;refine hK.out _ _ (by(try dsimp only);go_keep) (fun hHeld=> ?_);clear hK K;try simp only[Act.put,pA,pZ,pS]
    refine tk 10 ?_;try simp only[Act.put,pA,pZ,pS]
    refine tk 11 ?_;try simp only[Act.put,pA,pZ,pS]
    refine wpAnyH_done kR ?_ _;simp only[nX,aP,aU];go_wp2_with fail;all_goals
     have e7:(us++[Value.slice q6 D.length k6]).length=i+1:=by simp[UL.out]
     have e7':us.length+1=i+1:=by rw[UL.out]
     rw[e7] at hown7 ho7;obtain⟨w8,hw8⟩:=eY (w7.setCell ⟨w.heap.size+1,6,none⟩ (.slice qo' (i+1) ko'));have hge: ∀g∈jF (Value.slice q6 D.length k6),w5.heap.size≤g:=fun g hg=>by have:=(jP hown6 hg).1;simpa using this
     have hr6: ∀X:List Nat,(∀x∈X,x<w5.heap.size)→nC X w6 (.slice q6 D.length k6) (ints D):=fun X hX=>oL (by rw[kW];exact hown6) (fun x hx g hg=>by have:=hge g (nQ.2 hg);have:=hX x hx;omega)
     have hRX: ∀y∈rX Y (w.heap.size+1) (.slice qn' (i+1) kn') (.slice qo i ko) (M++[m]),y<w5.heap.size:=fun y hy=>by
      rcases ni.1 hy with rfl|q|q|q|q
      ·omega
      ·exact(jP HR5.out.on q).2
      ·exact(jP HR5.out.oo q).2
      ·exact(HR5.out.lm y q).2
      ·have:=HY.out y q;omega
     have ND:=RSt.order (w5:=w8) (vo':=.slice qo' (i+1) ko') (D:=D) HR5.out B6 w5l (hr6 [] (fun x hx=>by cases hx)) hge (hr6 _ hRX) (show Keep [] w6 _ from(kep (Keep.refl _ _))) hg7 ho7 (by rw[UL.out];exact hown7) hw8;have eT:O.take i++[D]=O.take (i+1):=by rw[bT,HDD.out];rfl
     rw[eT] at ND;have HR8:=ah ND.1;have K8:=ND.2;have B8:Below w.heap.size w w8:=HB5.out.trans (K8.below om (fun s hs=>by
      rcases aB.1 hs with r|r
      ·omega
      ·have:=(jP HR5.out.oo r).1;omega))
     have HC8:=ah (HC5.out.keep K8 (fun hs=>by
      rcases aB.1 hs with r|r
      ·omega
      ·have:=(jP HR5.out.oo r).1;omega))
     have w8l:w.heap.size+2≤w8.heap.size:=by have:=K8.size;omega
     have HLE:Hid ((M++[m]).length=i+1∧(us++[Value.slice q6 D.length k6]).length=i+1):=⟨by simp[ML.out],e7⟩;simp only[e7'];rw[←hw8];clear ND K8 hr6 hge hRX eT hown6 hown7 ho7 hg7 k7 t0 t1 t2 t3 t4 t6 f6 tl x0 x1 x2 x3 x4 xl y6 yl s0 s1 s2 s3 s4 sl z6' zl' hw8 e7 e7' hb6;go_wp2;go_roundw;case rel=>exact⟨i+1,qn',qo',kn',ko',M++[m],us++[Value.slice q6 D.length k6],om,by go_num,HLE,HR8,HC8,B8,w8l⟩
     case measure=>simp[intOf];omega
  ·obtain rfl:i=n:=by omega
   have a0:=HC.out.gC 0;have al:=HC.out.lt;have FIN:Hid (Ou Y mn lw hi O L w (.returned (.pointer (some ⟨w.heap.size+1,0,none⟩))) wr):=by
    have hst:=HR.out;have hlen:=HLEN.out;have hLi:L.length=i:=by rw[HLN.out,EN.out]
    have hi0:0<i:=om;have hOt:O.take i=O:=by rw[←hLi,←HO.out.1,bU]
    rw[hOt] at hst;obtain⟨rest,hrow,_,_,_,_,_⟩: ∃gN,qn=some ⟨gN,0,none⟩∧True∧True∧True∧True∧True:=by
     rcases hst.on.2 with⟨e,_⟩|⟨g,cap',cur,e,_⟩
     ·injection e with _ e2 _;omega
     ·injection e with e1 _ _
      exact⟨g,e1,trivial,trivial,trivial,trivial,trivial⟩
    subst hrow;obtain⟨kk,hkn,hkm2⟩: ∃kk:Unit,i≤kn∧kn≤maxLen:=by
     rcases hst.on.2 with⟨e,_⟩|⟨g,cap',cur,e,_,_,h2,h3,_⟩
     ·injection e with e1 _ _;cases e1
     ·injection e with _ _ e3
      subst e3;exact⟨(),by rw[←hlen.1];exact h2,h3⟩
    have hg1:rest∈jF (.slice (some ⟨rest,0,none⟩) i kn):=by simp[jF,Value.ownBlock]
    have hgl:=jP hst.on hg1;have hz:=hst.z.lt;have hsub: ∀y∈(w.heap.size+1)::rest::(M++Y),y∈rX Y (w.heap.size+1) (.slice (some ⟨rest,0,none⟩) i kn) (.slice qo i ko) M:=fun y hy=>by
     rcases aB.1 hy with rfl|hy
     ·exact ni.2 (.inl rfl)
     rcases aB.1 hy with rfl|hy
     ·exact ni.2 (.inr (.inl hg1))
     rcases aD.1 hy with hy|hy
     ·exact ni.2 (.inr (.inr (.inr (.inl hy))))
     ·exact ni.2 (.inr (.inr (.inr (.inr hy))))
    have hno: ∀x∈(w.heap.size+1)::rest::(M++Y),∀g,(Value.slice qo i ko).ownBlock=some g→x≠g:=fun x hx g hg e=>by
     subst e;have hg':=nQ.2 hg;rcases aB.1 hx with rfl|hx
     ·have:=(jP hst.oo hg').1;omega
     rcases aB.1 hx with rfl|hx
     ·exact hst.ne _ hg1 hg'
     rcases aD.1 hx with hx|hx
     ·exact(hst.nm.2 _ hx).2.2 hg'
     ·have:=(jP hst.oo hg').1;have:=HY.out _ hx;omega
    have hnl:jD wr rest (rJ M):=Tq (n:=M.length) (cap:=kn) (by rw[hlen.1];have:=hst.on;rwa [hlen.1] at this);refine⟨(w.heap.size+1)::rest::(M++Y),M,w.heap.size+1,rest,rfl,⟨⟨.slice p i cap,.slice q i k,kn,ko,qo,?_,by rw[hLi];exact hkn,hkm2,?_⟩,hnl,by rw[hlen.1,hLi],fun j m y hm hy=> ?_,HI.out,⟨sI,sI⟩,⟨om,fun q=>(hst.nm.2 _ q).1 rfl,fun q=>(hst.nm.2 _ q).2.1 hg1,hst.nm.1⟩,HO.out,⟨c6,c7,c8,hhi⟩⟩,fun x hx=> ?_,fun y hy=>by simp[hy],⟨fun q=>by have:=HY.out _ q;omega,fun q=>by have:=HY.out _ q;omega,fun m hm q=>by have:=HY.out _ q;have:=hst.lm m hm;omega⟩,hbel⟩
    ·rw[hLi];exact hst.z
    ·rw[hLi]
     have hoo:=hst.oo;refine⟨us,by rw[hlen.2,HO.out.1,hLi],?_,fun j u xs hu hxs=>(hst.row j u xs hu hxs).sub hsub⟩;have h2:=oL (X:=(w.heap.size+1)::rest::(M++Y)) hoo hno;exact h2
    ·have hyx:P[j]?=some y.n:=by rw[←HMM.out,List.getElem?_map,hy];rfl
     obtain⟨v,hb⟩:=hst.bud j m y.n hm hyx;obtain⟨f1,f2⟩:=HF.out y (aF hy);rw[f1,f2];exact⟨v,_,hb.sub (by simp[aF hm]) hsub⟩
    ·rcases aB.1 hx with rfl|hx
     ·exact⟨.inr om,om⟩
     rcases aB.1 hx with rfl|hx
     ·exact⟨.inr om,om⟩
     rcases aD.1 hx with hx|hx
     ·have:=hst.lm _ hx;exact⟨.inr om,om⟩
     ·exact⟨.inl hx,by have:=HY.out _ hx;have:=hbel.size;omega⟩
   go_wp2;go_ret;exact FIN.out
def UJ (w:World) (pages mn:Int) (e nw:Nat) (en:Ending) (w':World):Prop:=
 ∃(w3:World) (X:List Nat) (pd pc pz gh pdm ghm pcm pm gN:Nat) (x:Nd),en= .returned (.tuple #[.pointer (some ⟨pd,0,none⟩),.pointer (some ⟨pdm,0,none⟩),.bool true])∧Below w.heap.size w w3∧
  DZX w3 X [] pd pc pz gh pdm ghm pcm pm gN e mn mn mn [[0]] ⟨⟨[x],[]⟩,List.replicate nw ([],[]),[]⟩ ⟨⟨[x],[]⟩,List.replicate nw ([],[]),[]⟩ w'∧x.n=pages∧x.F=uH 0 pages∧x.T=[]∧Below w.heap.size w w'
theorem Au {B:Nat} {ev:Nat→Addr} (pages mn:Int) (e nw:Nat) (w:World) (hE:pY B ev w) (hc:tJ [pages] [[0]] mn mn mn=0) (hfit:mn≤9223372036854775807) (q1:1≤e) (q2:e≤64) (n1:1≤nw) (n4:nw≤4):
 Calls Tryz.prog 8 #[.int .i64 pages,.int .i64 mn,.int .i64 e,.int .i64 nw] w (UJ w pages mn e nw):=by
 have hB:=hE.size;have F1:=(((jD.mk_ w [.int .i64 pages] 3 rfl).past (.cells #[.int .i64 0] 3)).past (.cells #[.slice (some ⟨w.heap.size+1,0,none⟩) 1 1] 59)).past (.cells #[.slice (some ⟨w.heap.size,0,none⟩) 1 1,.slice (some ⟨w.heap.size+2,0,none⟩) 1 1,.int .i64 mn,.int .i64 mn,.int .i64 mn] 98);have F2:=((jD.mk_ (w.alloc (.cells #[.int .i64 pages] 3)) [.int .i64 0] 3 (b:=w.heap.size+1) sI).past (.cells #[.slice (some ⟨w.heap.size+1,0,none⟩) 1 1] 59)).past (.cells #[.slice (some ⟨w.heap.size,0,none⟩) 1 1,.slice (some ⟨w.heap.size+2,0,none⟩) 1 1,.int .i64 mn,.int .i64 mn,.int .i64 mn] 98);have F3:=(jD.mk_ ((w.alloc (.cells #[.int .i64 pages] 3)).alloc (.cells #[.int .i64 0] 3)) [.slice (some ⟨w.heap.size+1,0,none⟩) 1 1] 59 (b:=w.heap.size+2) sI).past (.cells #[.slice (some ⟨w.heap.size,0,none⟩) 1 1,.slice (some ⟨w.heap.size+2,0,none⟩) 1 1,.int .i64 mn,.int .i64 mn,.int .i64 mn] 98);have F4:=jD.mk_ (((w.alloc (.cells #[.int .i64 pages] 3)).alloc (.cells #[.int .i64 0] 3)).alloc (.cells #[.slice (some ⟨w.heap.size+1,0,none⟩) 1 1] 59)) [.slice (some ⟨w.heap.size,0,none⟩) 1 1,.slice (some ⟨w.heap.size+2,0,none⟩) 1 1,.int .i64 mn,.int .i64 mn,.int .i64 mn] 98 (b:=w.heap.size+3) sI;have b0:Below w.heap.size w ((((w.alloc (.cells #[.int .i64 pages] 3)).alloc (.cells #[.int .i64 0] 3)).alloc (.cells #[.slice (some ⟨w.heap.size+1,0,none⟩) 1 1] 59)).alloc (.cells #[.slice (some ⟨w.heap.size,0,none⟩) 1 1,.slice (some ⟨w.heap.size+2,0,none⟩) 1 1,.int .i64 mn,.int .i64 mn,.int .i64 mn] 98)):=jK
 obtain⟨W0,hW0⟩:=eX (((((w.alloc (.cells #[.int .i64 pages] 3)).alloc (.cells #[.int .i64 0] 3)).alloc (.cells #[.slice (some ⟨w.heap.size+1,0,none⟩) 1 1] 59)).alloc (.cells #[.slice (some ⟨w.heap.size,0,none⟩) 1 1,.slice (some ⟨w.heap.size+2,0,none⟩) 1 1,.int .i64 mn,.int .i64 mn,.int .i64 mn] 98)));change jD ((((w.alloc _).alloc _).alloc _).alloc _) _ _ at F1;replace F1:jD W0 w.heap.size [.int .i64 pages]:=hW0▸F1;replace F2:jD W0 (w.heap.size+1) [.int .i64 0]:=hW0▸F2;replace F3:jD W0 (w.heap.size+2) [.slice (some ⟨w.heap.size+1,0,none⟩) 1 1]:=hW0▸F3;replace F4:jD W0 (w.heap.size+3) [.slice (some ⟨w.heap.size,0,none⟩) 1 1,.slice (some ⟨w.heap.size+2,0,none⟩) 1 1,.int .i64 mn,.int .i64 mn,.int .i64 mn]:=hW0▸F4;rw[hW0] at b0;have Iw:Cfg [] W0 (.slice (some ⟨w.heap.size,0,none⟩) 1 1) (.slice (some ⟨w.heap.size+2,0,none⟩) 1 1) [pages] [[0]]:=by
  refine⟨wD (us:=ints [pages]) (cap:=1) F1 (fun q=>by cases q) (by simp[ints]) (by unfold maxLen;omega),[.slice (some ⟨w.heap.size+1,0,none⟩) 1 1],rfl,wD (cap:=1) F3 (fun q=>by cases q) sI (by unfold maxLen;omega),fun j u xs hu hxs=> ?_⟩;cases j with
  |zero=>
   simp at hu hxs;subst hu hxs;exact wD (us:=ints [0]) (cap:=1) F2 (fun q=>by cases q) (by simp[ints]) (by unfold maxLen;omega)
  |succ j=>simp at hu
 have HM0:=ah F4;have CF:Hid (∀W,Below W0.heap.size W0 W→Cfg [] W (.slice (some ⟨w.heap.size,0,none⟩) 1 1) (.slice (some ⟨w.heap.size+2,0,none⟩) 1 1) [pages] [[0]]):=fun W hW=>Iw.below hW
 have EE:Hid (∀W,Below W0.heap.size W0 W→pY B ev W):=fun W hW=>hE.go (b0.trans (hW.mono b0.size))
 have CE0:=D8 [] (.slice (some ⟨w.heap.size,0,none⟩) 1 1) (.slice (some ⟨w.heap.size+2,0,none⟩) 1 1) [pages] [[0]] mn mn mn W0 Iw;rw[hc] at CE0;have CE:=ah (show Calls Tryz.prog 43 #[.agg #[.slice (some ⟨w.heap.size,0,none⟩) 1 1,.slice (some ⟨w.heap.size+2,0,none⟩) 1 1,.int .i64 mn,.int .i64 mn,.int .i64 mn]] W0 fun e w'=>e= .returned (.int .i64 0)∧Below W0.heap.size W0 w' from CE0);have HCE:=ah hc;have HB0:=ah b0;have OF:Hid (∀W,Below W0.heap.size W0 W→Calls Tryz.prog 45 #[.agg #[.slice (some ⟨w.heap.size,0,none⟩) 1 1,.slice (some ⟨w.heap.size+2,0,none⟩) 1 1,.int .i64 mn,.int .i64 mn,.int .i64 mn]] W fun e w'=>∃vP' vN',e= .returned (.agg #[vP',vN',.int .i64 mn,.int .i64 mn,.int .i64 mn])∧Cfg [] w' vP' vN' [pages] [[0]]∧Below W.heap.size W w'):=fun W hW=>Ht (X:=[]) _ _ [pages] [[0]] mn mn mn W (CF.out W hW) (fun x hx=>by cases hx) (show 1≤_ by omega) (show 1≤_ by omega) (fun j xs hj=>by cases j with|zero=>(simp at hj;subst hj;show 1≤_;omega)|succ j=>(simp at hj))
 have a0:=F4.gC 0;have a1:=F4.gC 1;have a2:=F4.gC 2;have a3:=F4.gC 3;have a4:=F4.gC 4;have al:=F4.lt;have d0:decide ((e:Int)<1)=false:=decide_eq_false om;have d1:decide ((64:Int)<(e:Int))=false:=decide_eq_false om;have d0':decide ((nw:Int)<1)=false:=decide_eq_false om;have d1':decide ((4:Int)<(nw:Int))=false:=decide_eq_false om;clear F1 F2 F3 F4 CE0 hc b0 Iw hE;go_enter Tryz.func8,Tryz.ntmps8;go_wp2_with fail;clear hW0;refine CE.out.mono ?_;rintro r w2 ⟨rfl,hb2⟩;have HM2:=ah (HM0.out.go hb2);clear a0 a1 a2 a3 a4 al CE;have a0:=HM2.out.gC 0;have a1:=HM2.out.gC 1;have a2:=HM2.out.gC 2;have a3:=HM2.out.gC 3;have a4:=HM2.out.gC 4;have al:=HM2.out.lt;go_wp2_with fail;refine(OF.out w2 hb2).mono ?_;rintro r w3 ⟨vP',vN',rfl,hcfg,hb3⟩;have K3:Below W0.heap.size W0 w3:=hb2.trans (hb3.mono hb2.size);have HM3:=ah (HM2.out.go hb3);have NW:=ah (QK [] vP' vN' [pages] [[0]] mn mn mn w3 (EE.out w3 K3).c hcfg HCE.out hfit);clear hcfg a0 a1 a2 a3 a4 al OF;go_wp2_with fail;refine NW.out.mono ?_;rintro r w4 ⟨pz,O,L,rfl,hz,hpz,hLn,hLF,hO,hb4⟩;obtain⟨x,rfl⟩: ∃x,L=[x]:=by
  match L,hLn with
  |[x],_=>exact⟨x,rfl⟩
 have hOO:=ordZ_one hz.ord;subst hOO;have z4:=hb4.size;have HZ:=ah hz;have HLN:=ah hLn;have HLF:=ah hLF;have HO:=ah hO;have K4:Below W0.heap.size W0 w4:=K3.trans (hb4.mono K3.size);have HM4:=ah (HM3.out.go hb4);clear hz hLn hLF hO NW;go_wp2_with fail;refine(snew_ok pz e w4 q1 q2).mono ?_;rintro r w5 ⟨rfl,hw5⟩;have C0:=CS.new HZ.out sI z4 e;rw[←hw5] at C0;have b5:Below w4.heap.size w4 w5:=by rw[hw5];exact jK
 have z5:=b5.size;have HC0:=ah C0;have K5:Below W0.heap.size W0 w5:=K4.trans (b5.mono K4.size);have BEL5:=ah (hb4.trans (b5.mono z4));obtain⟨pc,hpc⟩:=eY w4.heap.size;rw[←hpc] at HC0 ⊢;clear C0 hw5 hpc;have HM5:=ah (HM4.out.go b5);have hI: ∀y∈[x],Inv y.n y.F y.T:=fun y hy=>(HZ.out.b.bud y hy).2
 have INV0:Hid (tq e ⟨[x],[]⟩):=⟨q1,q2,hI,by show 1≤4;omega,List.Pairwise.nil,fun s hs=>(by cases hs),fun s hs=>(by cases hs)⟩;go_wp2_with fail;refine(dnew_ok pc nw w5 n1 n4).mono ?_;rintro r w6 ⟨rfl,hw6⟩;have D0:=CD.start HC0.out om nw hw6;have b6:Below w5.heap.size w5 w6:=by rw[hw6];exact jK
 have z6:=b6.size;have K6:Below W0.heap.size W0 w6:=K5.trans (b6.mono K5.size);obtain⟨pd,hpd⟩:=eY (w5.heap.size+1);obtain⟨gh,hgh⟩:=eY w5.heap.size;rw[←hpd,←hgh] at D0;rw[←hpd];have P6:=ah (show DpS w3.heap.size w3 pd pc pz gh mn mn mn [[0]] e _ [] ⟨⟨[x],[]⟩,List.replicate nw ([],[]),[]⟩ w6 from⟨D0,oH.start INV0.out nw n1 n4,BEL5.out.trans (b6.mono (by have:=BEL5.out.size;omega))⟩);have HM6:=ah (HM5.out.go b6);clear D0 hw6 b6 hpd hgh;have a0:=HM6.out.gC 0;have a1:=HM6.out.gC 1;have a2:=HM6.out.gC 2;have a3:=HM6.out.gC 3;have a4:=HM6.out.gC 4;have al:=HM6.out.lt;have NZ:=ah (Iu _ (.slice (some ⟨w.heap.size,0,none⟩) 1 1) (.slice (some ⟨w.heap.size+2,0,none⟩) 1 1) [pages] [[0]] mn mn mn [[0]] [x] w6 (fun y hy=>(P6.out.lim y hy).2) (CF.out w6 K6) HCE.out hfit HLN.out HLF.out hI HZ.out.ord HO.out);clear hI;go_wp2_with fail;refine NZ.out.mono ?_;rintro r w12 ⟨X,M,pm,gN,rfl,hrz,hX1,hX2,⟨hX3,hX4,hX5⟩,hb12⟩;have K12:Below W0.heap.size W0 w12:=K6.trans (hb12.mono K6.size);have z12:=hb12.size;have ST:=fun(w15:World) hw=>DZX.start (nw:=nw) (w15:=w15) P6.out hb12 hrz hX1 hX2 hX3 hX4 hX5 hw
 have HST:=ah ST;have HK3:=ah K3;clear ST NZ hrz hX1 hX2 hX3 hX4 hX5 a0 a1 a2 a3 a4 al P6;go_wp2_with fail;refine(rdnew_ok w12.heap.size nw _ n1 n4).mono ?_;rintro r w15 ⟨rfl,hw15⟩;simp at hw15;have S0:=ah (HST.out w15 (by rw[hw15]));have b15:Below w12.heap.size w12 w15:=by rw[hw15];exact jK
 have e15:(w12.alloc (.cells #[.pointer (some ⟨pm,0,none⟩),.int .i64 e,.slice none 0 0] 116)).heap.size+1=w12.heap.size+2:=sI;rw[e15];have K15:=ah (HB0.out.trans ((K12.trans (b15.mono K12.size)).mono HB0.out.size));clear HST hw15 e15 b15;go_wp2;refine bodyPost_ret (v:=.tuple #[.pointer (some ⟨pd,0,none⟩),.pointer (some ⟨w12.heap.size+2,0,none⟩),.bool true]) (by simp[results,Tryz.results8,go_sem]) rfl ?_;exact⟨w3,_,pd,pc,pz,gh,_,_,_,pm,gN,x,rfl,HB0.out.trans (HK3.out.mono HB0.out.size),S0.out,by have:=HLN.out;simpa using this,by have:=(HLF.out x sI).1;have h2:=HLN.out;simp at h2;rw[h2] at this;exact this,(HLF.out x sI).2,K15.out⟩
end Go.Proofs.YtehhldljdakgeaaGreatDoor
