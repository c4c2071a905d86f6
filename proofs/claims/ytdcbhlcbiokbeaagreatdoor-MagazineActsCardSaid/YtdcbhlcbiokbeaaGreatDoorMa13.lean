/- Lemmas and contracts for the claim's last text: DGive, DGiveA, DGiveB, DHeld. -/
import Derived.Test.YtdcbhlcbiokbeaaGreatDoorMa01
import Derived.Test.YtdcbhlcbiokbeaaGreatDoorMa12
set_option linter.unusedSimpArgs false
set_option linter.unusedVariables false
set_option maxHeartbeats 16000000
set_option maxRecDepth 100000
namespace Go.Proofs.YtdcbhlcbiokbeaaGreatDoor
section
open Go.RowKit Go.Maps
attribute [local go_sem ↓] aW aX
structure tJ (B:Nat) (ev:Nat→Addr) (w:World):Prop where
 z:qM B ev w
 l9:2<B
 c9:w.cell? ⟨2,0,none⟩=some (jB ev 9)
theorem tJ.below {B:Nat} {ev:Nat→Addr} {w w':World} (h:tJ B ev w) (hb:Below B w w'):tJ B ev w':=⟨h.z.below hb,h.l9,by rw[hb.cell (p:=⟨2,0,none⟩) h.l9];exact h.c9⟩
theorem tJ.size {B:Nat} {ev:Nat→Addr} {w:World} (h:tJ B ev w):B≤w.heap.size:=h.z.size
theorem tJ.go {B:Nat} {ev:Nat→Addr} {w w':World} (h:tJ B ev w) (hb:Below w.heap.size w w'):tJ B ev w':=h.below (hb.mono h.size)
theorem tJ.up {B B':Nat} {ev:Nat→Addr} {w:World} (h:tJ B ev w) (hb:B≤B') (hs:B'≤w.heap.size):tJ B' ev w:=⟨h.z.up hb hs,aF h.l9 hb,h.c9⟩
theorem sS.s {B:Nat} {ev:Nat→Addr} {w:World} (h:sS B ev w):tJ B ev w:=⟨h.z,h.glob 9 (by decide) (by decide),h.cell 9 (by decide) (by decide)⟩
section
variable {X Y S:List Nat} {B:Nat} {ev:Nat→Addr} {w w':World} {pd pc pz gh e:Nat} {mn lw hi:Int} {O:List (List Int)} {v vp vp':Value} {A:SA} {V:HV} {U U':List Value} {d:De} {c:Ca} {P':List (List Ob)}
theorem xZ (q:Option Addr) (n cap:Nat) (w:World) (hq:q=none→n=0) (hn:n≤cap):
 Calls Tryz.prog 149 #[.slice q n cap] w fun e w'=>e= .returned (.slice q n n)∧w'=w:=by
 cases q with
 |none=>
  have:=hq rfl
  subst this
  by_cases hc:cap=0
  ·subst hc
   go_enter Tryz.func149,Tryz.ntmps149
   go_wp2
   go_ret
   exact⟨rfl,rfl⟩
  ·go_enter Tryz.func149,Tryz.ntmps149
   go_wp2
   go_ret
   exact⟨rfl,rfl⟩
 |some a=>
  obtain⟨g,o,p⟩:=a
  have h1:(n:Int)≤(cap:Int):=om
  go_enter Tryz.func149,Tryz.ntmps149
  go_wp2
  go_ret
  exact⟨rfl,rfl⟩
theorem run_appO {q:Option Addr} {l:List Ob} (h:j5 X w (.slice q l.length l.length) l) (hl:l.length≤65536) (ty:TypeId) {a:Addr} {cp:Nat} {o:Ob} (h0:w.cell? (a.add 0)=some (.int .i64 o.1)) (h1:w.cell? (a.add 1)=some (.int .i64 o.2)):
 ∃g k w',(Builtin.append_ #[79,79] ty #[.slice q l.length l.length,.slice (some a) 1 cp]).run Tryz.prog w= .ok (.slice (some ⟨g,0,none⟩) (l.length+1) k) w'∧w'.ownsRow w.heap.size 49 2 (.slice (some ⟨g,0,none⟩) (l.length+1) k) (l.length+1) (jc (l++[o]))∧Below w.heap.size w w':=by
 obtain⟨i0,hi,hz0,hz1,hz2⟩:=info_parts (P:=Tryz.prog) (e:=49) (z:=.agg #[.int .i64 0,.int .i64 0]) (size:=2) (bytes:=16) kR
 have hms: ∀(j:Nat) (u:Value),[Value.int .i64 o.1,.int .i64 o.2][j]?=some u→w.cell? (a.add j)=some u:=fun j u hj=>by
  cases j with
  |zero=>simp at hj;subst hj;exact h0
  |succ j=>
   cases j with
   |zero=>simp at hj;subst hj;exact h1
   |succ j=>simp at hj
 have fin: ∀v' w',w'.ownsRow w.heap.size 49 2 v' (l.length+1) (jc (l++[o]))→w.grownBy w' none→∃g k,v'= .slice (some ⟨g,0,none⟩) (l.length+1) k:=fun v' w' ho _=>by
  rcases ho.2 with⟨rfl,h3⟩|⟨g,cap,cur,rfl,_⟩
  ·exact absurd h3 om
  ·exact⟨g,cap,rfl⟩
 have elen:(jc l).length=l.length*2:=by rw[j6];omega
 cases q with
 |none=>
  obtain⟨p',cap',e1,e2,e3,e4⟩:=h
  have hl0:l=[]:=by
   have e5:=(dM e1).1
   clear e1 fin elen hms
   cases l with
   |nil=>rfl
   |cons b r=>
    obtain⟨g,off,t,_⟩:=e4 0 b.1 b.2 rfl
    rw[←e5] at t;cases t
  subst hl0
  obtain⟨v',w',hrun,h2,h3,_⟩:=run_append_own_at (P:=Tryz.prog) w w.heap.size 79 ty 49 i0 _ 2 16 gP hi hz0 hz1 hz2 rfl om (.slice none 0 0) 0 [] (aR _ _ _ _) a 1 cp [.int .i64 o.1,.int .i64 o.2] sI hms (by intro u hu;simp at hu;rcases hu with rfl|rfl<;>rfl) (by unfold maxLen;omega) om (aI _)
  have hg:w.grownBy w' none:=h3
  obtain⟨g,k,rfl⟩:=fin v' w' (by simpa[jc] using h2) hg
  exact⟨g,k,w',by simpa using hrun,by simpa[jc] using h2,(aJ _ _).grown hg (aI _) (fun k q=>by cases q)⟩
 |some b=>
  have holds: ∀(j:Nat) (u:Value),(jc l)[j]?=some u→w.cell? (b.add j)=some u:=fun j u hj=>by
   have hjl:=(aj.1 hj).1
   rw[elen] at hjl
   obtain⟨y,hy⟩: ∃y,l[j / 2]?=some y:=⟨l[j / 2]' om,au _⟩
   obtain⟨g,off,t,_,_,c0,c1⟩:=h.at hy
   obtain rfl:=aH t
   obtain⟨e1,e2⟩:=oh l (j / 2) y.1 y.2 hy
   rw[addr_add]
   have:j=j / 2*2∨j=j / 2*2+1:=om
   rcases this with q|q
   ·rw[q] at hj
    rw[e1] at hj
    obtain rfl:=aH hj
    rw[q];exact c0
   ·rw[q] at hj
    rw[e2] at hj
    obtain rfl:=aH hj
    rw[q];exact c1
  obtain⟨v',w',hrun,h2,h3⟩:=run_append_arg_grows (P:=Tryz.prog) w 79 ty 49 i0 _ 2 16 gP hi hz0 hz1 hz2 rfl om b l.length l.length (jc l) elen holds a 1 cp [.int .i64 o.1,.int .i64 o.2] sI hms om (by unfold maxLen;omega) om
  rw[←jS] at h2
  obtain⟨g,k,rfl⟩:=fin v' w' h2 h3
  exact⟨g,k,w',hrun,h2,(aJ _ _).grown h3 (aI _) (fun k q=>by cases q)⟩
theorem o7 {P:Program} {ops:Array Oper} {o:Oper} {a:Act} {w:World} {K:Act→World→Prop} {Q:Exit→Act→World→Prop} {F:Prop} (hg:o.guard=none)
 (f:FuncId) (args:Array Value) (hrun:(execOp a.eval o).run P w= .ok (.enter f args) w) (v:Value) (w':World) (hc:Calls P f args w fun e w''=>e= .returned v∧w''=w') (hK:K (a.put o.dst v) w'):
 if Region.wanted o (yielded ops a.tmps)=true then Oper.wp P o a w K Q else F:=by
 have hw:Region.wanted o (yielded ops a.tmps)=true:=by simp[Region.wanted,hg]
 rw[if_pos hw]
 unfold Oper.wp
 rw[hrun,Oper.upon_enter]
 refine hc.mono fun e w'' hh=> ?_
 obtain⟨rfl,rfl⟩:=hh
 exact hK
theorem Gh {ops:Array Oper} {o:Oper} {a:Act} {K:Act→World→Prop} {Q:Exit→Act→World→Prop} {F:Prop} {q:Option Addr} {l:List Ob} (hgd:o.guard=none) (s x:Operand)
 (hop:o.op= .call {callee:=.builtin .append,args:=#[s,x],argTypes:=#[79,79]}) (hs:a.eval s= .slice q l.length l.length) {ad:Addr} {cp:Nat} (hx:a.eval x= .slice (some ad) 1 cp)
 (h:j5 X w (.slice q l.length l.length) l) (hl:l.length≤65536) {ob:Ob} (h0:w.cell? (ad.add 0)=some (.int .i64 ob.1)) (h1:w.cell? (ad.add 1)=some (.int .i64 ob.2))
 (hK: ∀g k w',w'.ownsRow w.heap.size 49 2 (.slice (some ⟨g,0,none⟩) (l.length+1) k) (l.length+1) (jc (l++[ob]))→Below w.heap.size w w'→K (a.put o.dst (.slice (some ⟨g,0,none⟩) (l.length+1) k)) w'):
 if Region.wanted o (yielded ops a.tmps)=true then Oper.wp Tryz.prog o a w K Q else F:=by
 have hw:Region.wanted o (yielded ops a.tmps)=true:=by simp[Region.wanted,hgd]
 rw[if_pos hw]
 obtain⟨g,k,w',hrun,h2,h3⟩:=run_appO h hl o.type h0 h1 (cp:=cp)
 unfold Oper.wp execOp
 simp only[hop,resolve,invoke,builtin,dP,dX,dx,dG,bX,dY,hs,hx,hrun]
 exact hK g k w' h2 h3
theorem o8 {ops:Array Oper} {o:Oper} {a:Act} {K:Act→World→Prop} {Q:Exit→Act→World→Prop} {F:Prop} {q:Option Addr} {n:Nat} {l:List Ob} (hn:n=l.length) (hgd:o.guard=none) (s x:Operand)
 (hop:o.op= .call {callee:=.builtin .append,args:=#[s,x],argTypes:=#[79,79]}) (hs:a.eval s= .slice q n n) {ad:Addr} {cp:Nat} (hx:a.eval x= .slice (some ad) 1 cp)
 (h:j5 X w (.slice q l.length l.length) l) (hl:n≤65536) {ob:Ob} (h0:w.cell? (ad.add 0)=some (.int .i64 ob.1)) (h1:w.cell? (ad.add 1)=some (.int .i64 ob.2))
 (hK: ∀g k w',w'.ownsRow w.heap.size 49 2 (.slice (some ⟨g,0,none⟩) (n+1) k) (n+1) (jc (l++[ob]))→Below w.heap.size w w'→K (a.put o.dst (.slice (some ⟨g,0,none⟩) (n+1) k)) w'):
 if Region.wanted o (yielded ops a.tmps)=true then Oper.wp Tryz.prog o a w K Q else F:=by
 subst hn
 exact Gh hgd s x hop hs hx h hl h0 h1 hK
end
end
section
open Go.RowKit Go.Maps
attribute [local go_sem ↓] aW aX
theorem j5.clip {X:List Nat} {w:World} {q:Option Addr} {n c:Nat} {l:List Ob} (h:j5 X w (.slice q n c) l):j5 X w (.slice q l.length l.length) l∧n=l.length∧n≤c∧(q=none→n=0):=by
 obtain⟨p,cap,h1,h2,h3,h4⟩:=h
 obtain⟨e1,e2,e3⟩:=dM h1
 subst e1 e2 e3
 refine⟨⟨q,l.length,rfl,aI _,om,h4⟩,rfl,h2,fun e=> ?_⟩
 cases l with
 |nil=>rfl
 |cons b r=>
  obtain⟨g,off,t,_⟩:=h4 0 b.1 b.2 rfl
  rw[e] at t;cases t
section
variable {X Y S F:List Nat} {B:Nat} {ev:Nat→Addr} {w w':World} {pd pc pz gh e:Nat} {mn lw hi:Int} {O:List (List Int)} {v vp vp':Value} {A:SA} {V:HV} {U U':List Value} {d:De} {c:Ca} {P':List (List Ob)}
def mW (B:Nat) (ev:Nat→Addr) (pd pc pz gh:Nat) (mn lw hi:Int) (O:List (List Int)) (e:Nat) (X F:List Nat) (w:World) (r:De×Nat) (en:Ending) (w':World):Prop:=
 en= .returned (jB ev r.2)∧∃X',CDx B w' X' F pd pc pz gh mn lw hi O e r.1∧Keep (off X F) w w'∧(∀x∈X',x∈X∨w.heap.size≤x)∧∀x∈X,x∈X'
theorem CD.Ci (h:CD B w X pd pc pz gh mn lw hi O e v A V vp U d) (k:Nat) {p':Value×Value} {h':Hd} (hk:k<d.H.length) (kk:Keep [gh] w w') (r1:j5 X w' p'.1 h'.1) (r2:j5 X w' p'.2 h'.2) (hg:iy w' gh (iX (V.set k p'))):
 CD B w' X pd pc pz gh mn lw hi O e v A (V.set k p') vp U ⟨d.c,d.H.set k h',d.P⟩:=by
 have q:=h.oF k (p':=(.slice none 0 0,.slice none 0 0)) (h':=([],[])) (w':=w) hk (j5.nil X w) (j5.nil X w) (Keep.refl _ _)
 obtain⟨n0,nn⟩:=aZ.1 h.de.nd
 obtain⟨n1,n2⟩:=aZ.1 nn
 have hpg:pd≠gh:=fun q=>n0 (q▸aD ..)
 have fg:=h.far gh h.jm
 have hs: ∀s∈[gh],s∈X∨w.heap.size≤s:=fun s q=>by simp at q;subst q;exact .inl fg.1
 refine⟨h.x,h.limK kk,h.cs.z.keep kk (fun s q=>by simp at q;subst q;exact .inl ⟨fg.1,fg.2.2⟩) |> fun z=>⟨z,h.cs.ch.keep kk (fun s q=>by simp at q;subst q;exact fg.2.1),h.cs.ne,h.cs.l0⟩,?_,h.ne⟩
 refine⟨?_,hg,by simp[h.de.hl],fun i p g hp hg'=> ?_,iE h.de.row kk (fun s q=>by simp at q;subst q;exact n1),h.de.ul,fun i u m hu hm=>(h.de.po i u m hu hm).keep kk hs,h.de.mem,h.de.nd,fun y hy=>⟨(h.de.lim y hy).1,aF (h.de.lim y hy).2 kk.size⟩⟩
 ·rw[bM]
  exact h.de.d.keep kk (by simpa using hpg)
 ·by_cases q:k=i
  ·subst q
   rw[aL (by rw[h.de.hl];exact hk)] at hp
   rw[aL hk] at hg'
   obtain rfl:=aH hp
   obtain rfl:=aH hg'
   exact⟨r1,r2⟩
  ·rw[bD q] at hp hg'
   exact⟨(h.de.ho i p g hp hg').1.keep kk hs,(h.de.ho i p g hp hg').2.keep kk hs⟩
theorem vJ {k:Nat} {g:Hd} {o:Ob} (hk:d.H[k]?=some g) (ho:vB e d o=true):iU e d k o=(⟨d.c,d.H.set k ((jw g d.P).1.1++[o],(jw g d.P).1.2),(jw g d.P).2⟩,0):=by
 unfold iU;rw[jo hk];simp only[ho,if_true,bJ]
theorem AL {k:Nat} {g:Hd} {o:Ob} (hk:d.H[k]?=some g) (ho:vB e d o=false):iU e d k o=(d,9):=by
 unfold iU;rw[jo hk];simp only[ho];rfl
theorem Gi {k:Int} {o:Ob} (hk:jI d k=none):iU e d k o=(d,2):=by unfold iU;rw[hk]
theorem Gj (k:Int) (o:Ob) (hE:tJ B ev w) (h:CD B w X pd pc pz gh mn lw hi O e v A V vp U d) (hF:Hid (∀f∈F,f∈X∧f∉xd pc v A d.c.L pd gh vp)) (hk:jI d k=none):
 Calls Tryz.prog 39 #[.pointer (some ⟨pd,0,none⟩),.int .i64 k,.agg #[.int .i64 o.1,.int .i64 o.2]] w (mW B ev pd pc pz gh mn lw hi O e X F w (iU e d k o)):=by
 rw[Gi hk]
 have b1:Below w.heap.size w (w.alloc (.cells #[.int .i64 o.1,.int .i64 o.2] 49)):=iB
 have NO:=ah (vG (hE.z.go b1).c (h.below b1) k (nZ hk))
 have e1:jB ev 2= .iface 434 (.pointer (some (ev 2))):=rfl
 have FIN:Hid (∀W,Below w.heap.size w W→mW B ev pd pc pz gh mn lw hi O e X F w (d,2) (.returned (.iface 434 (.pointer (some (ev 2))))) W):=fun W b=>⟨rfl,X,⟨_,_,_,_,_,h.below b,hF.out⟩,Keep.of b,fun _ q=>.inl q,fun _ q=>q⟩
 have HB1:=ah b1
 rw[e1] at NO
 clear h hk hE e1 b1
 go_enter Tryz.func39,ig
 go_wp2_with fail
 refine NO.out.mono ?_
 rintro r w1 ⟨rfl,hb1⟩
 go_wp2
 go_ret
 exact FIN.out _ (HB1.out.trans (hb1.mono sI))
theorem AO (k:Nat) (o:Ob) (hE:tJ B ev w) (h:CD B w X pd pc pz gh mn lw hi O e v A V vp U d) (hF:Hid (∀f∈F,f∈X∧f∉xd pc v A d.c.L pd gh vp)) (hI:jY e d) (o1: -9223372036854775808≤o.2) (o2:o.2≤9223372036854775807) {g:Hd} (hk:d.H[k]?=some g) (ho:vB e d o=false):
 Calls Tryz.prog 39 #[.pointer (some ⟨pd,0,none⟩),.int .i64 k,.agg #[.int .i64 o.1,.int .i64 o.2]] w (mW B ev pd pc pz gh mn lw hi O e X F w (iU e d k o)):=by
 rw[AL hk ho]
 have hkl:=(aj.1 hk).1
 have b1:Below w.heap.size w (w.alloc (.cells #[.int .i64 o.1,.int .i64 o.2] 49)):=iB
 have HL:=ah (show iy (w.alloc (.cells #[.int .i64 o.1,.int .i64 o.2] 49)) w.heap.size [.int .i64 o.1,.int .i64 o.2] from iy.mk_ w [.int .i64 o.1,.int .i64 o.2] 49 rfl)
 obtain⟨W1,hW1⟩: ∃W1,W1=w.alloc (.cells #[.int .i64 o.1,.int .i64 o.2] 49):=⟨_,rfl⟩
 rw[←hW1] at b1 HL
 have h1:=h.below b1
 have HD:=ah (lW h1 k hkl)
 have OU:=xY o h1 hI o1 o2
 rw[ho] at OU
 have HOU:=ah OU
 have m0:=HL.out.c 0 _ rfl;have m1:=HL.out.c 1 _ rfl;have ml:=HL.out.lt
 have e1:jB ev 9= .iface 434 (.pointer (some (ev 9))):=rfl
 have FIN:Hid (∀W,Below w.heap.size w W→mW B ev pd pc pz gh mn lw hi O e X F w (d,9) (.returned (.iface 434 (.pointer (some (ev 9))))) W):=fun W b=>⟨rfl,X,⟨_,_,_,_,_,h.below b,hF.out⟩,Keep.of b,fun _ q=>.inl q,fun _ q=>q⟩
 have HB1:=ah b1;have HE:=ah hE;have E1:=ah e1
 clear h hk hE e1 b1 h1 OU hI
 go_enter Tryz.func39,ig
 go_wp2_with fail
 rw[←hW1]
 clear hW1
 refine HD.out.mono ?_
 rintro r w1 ⟨rfl,rfl⟩
 go_wp2_with fail
 refine HOU.out.mono ?_
 rintro r w2 ⟨rfl,hb2⟩
 have B2:=HB1.out.trans (hb2.mono HB1.out.size)
 have gs:w2.cell? ⟨2,0,none⟩=some (jB ev 9):=(HE.out.go B2).c9
 have gsl:2<w2.heap.size:=aF HE.out.l9 (bN HE.out.size B2.size)
 rw[E1.out] at gs
 go_wp2
 go_ret
 exact FIN.out _ iB
theorem dgive_1 (k:Nat) (o:Ob) (h:CD B w X pd pc pz gh mn lw hi O e v A V vp U d) (hF:Hid (∀f∈F,f∈X∧f∉xd pc v A d.c.L pd gh vp)) (hI:jY e d) (o1: -9223372036854775808≤o.2) (o2:o.2≤9223372036854775807) {l r:List Ob} (hk:d.H[k]?=some (l,r)) (hl3:l.length≤3) (ho:vB e d o=true):
 Calls Tryz.prog 39 #[.pointer (some ⟨pd,0,none⟩),.int .i64 k,.agg #[.int .i64 o.1,.int .i64 o.2]] w (mW B ev pd pc pz gh mn lw hi O e X F w (iU e d k o)):=by
 have hkl:=(aj.1 hk).1
 have fd:jw (l,r) d.P=((l,r),d.P):=by unfold jw;rw[if_neg (by show¬l.length=4;omega)]
 rw[vJ hk ho,fd]
 have b1:Below w.heap.size w (w.alloc (.cells #[.int .i64 o.1,.int .i64 o.2] 49)):=iB
 have HL:=ah (show iy (w.alloc (.cells #[.int .i64 o.1,.int .i64 o.2] 49)) w.heap.size [.int .i64 o.1,.int .i64 o.2] from iy.mk_ w [.int .i64 o.1,.int .i64 o.2] 49 rfl)
 obtain⟨W1,hW1⟩: ∃W1,W1=w.alloc (.cells #[.int .i64 o.1,.int .i64 o.2] 49):=⟨_,rfl⟩
 rw[←hW1] at b1 HL
 have h1:=h.below b1
 have HD:=ah (lW h1 k hkl)
 have OU:=xY o h1 hI o1 o2
 rw[ho] at OU
 have HOU:=ah OU
 have m0:=HL.out.c 0 _ rfl;have m1:=HL.out.c 1 _ rfl;have ml:=HL.out.lt
 have HB1:=ah b1;have HH:=ah h
 have rg: ¬(w.heap.size=gh):=fun q=>by have:=(h.de.lim gh h.jm).2;omega
 have VL:Hid (k<V.length):=by show k<V.length;rw[h.de.hl];exact hkl
 clear h b1 h1 OU hI ho
 go_enter Tryz.func39,ig
 go_wp2_with fail
 rw[←hW1]
 clear hW1
 refine HD.out.mono ?_
 rintro r' w1 ⟨rfl,rfl⟩
 go_wp2_with fail
 refine HOU.out.mono ?_
 rintro r' w2 ⟨rfl,hb2⟩
 have B2:=HB1.out.trans (hb2.mono HB1.out.size)
 obtain⟨p,hp,r1,r2,g0,g1,f0,f1,gl⟩:=(HH.out.below B2).hand hk
 obtain⟨⟨pa,pb⟩,rfl⟩: ∃q,q=p:=⟨_,rfl⟩
 obtain⟨qa,ca,e1,_,_⟩:=r1.isSlice
 simp only at e1 g0 g1 hp
 subst e1
 obtain⟨rc,_,nc,qn⟩:=j5.clip (by simpa using r1)
 have HRC:=ah rc;have HR2:=ah r2;have HP:=ah hp
 have HLB:=ah (HL.out.go hb2)
 have x0:=HLB.out.c 0 _ rfl;have x1:=HLB.out.c 1 _ rfl;have xl:=HLB.out.lt
 have HB2:=ah B2
 obtain⟨n,hn⟩: ∃n,n=l.length:=⟨_,rfl⟩
 have EN:=ah hn
 replace g0:w2.cell? ⟨gh,k*2,none⟩=some (.slice qa n ca):=by rw[hn];exact g0
 rw[←hn] at hl3 nc qn
 have d1:decide (n=4)=false:=decide_eq_false om
 have d1':decide ((n:Int)=4)=false:=decide_eq_false om
 have CL:Hid (∀W,Calls Tryz.prog 149 #[.slice qa n ca] W fun e w'=>e= .returned (.slice qa n n)∧w'=W):=fun W=>xZ qa n ca W qn nc
 have NB0:Hid ((w2.alloc (.cells #[.int .i64 o.1,.int .i64 o.2] 49)).drew.cell? ⟨w2.heap.size,0+0,none⟩=some (.int .i64 o.1)):=(iy.mk_ w2 [.int .i64 o.1,.int .i64 o.2] 49 rfl).jF.c 0 _ rfl
 have NB1:Hid ((w2.alloc (.cells #[.int .i64 o.1,.int .i64 o.2] 49)).drew.cell? ⟨w2.heap.size,0+1,none⟩=some (.int .i64 o.2)):=(iy.mk_ w2 [.int .i64 o.1,.int .i64 o.2] 49 rfl).jF.c 1 _ rfl
 have HLH:=ah ((HH.out.below B2).de.hs)
 have FIN:Hid (∀w4 g' k',Below w2.heap.size w2 w4→w4.ownsRow ((w2.alloc (.cells #[.int .i64 o.1,.int .i64 o.2] 49)).drew).heap.size 49 2 (.slice (some ⟨g',0,none⟩) (n+1) k') (n+1) (jc (l++[o]))→
  mW B ev pd pc pz gh mn lw hi O e X F w (⟨d.c,d.H.set k (l++[o],r),d.P⟩,0) (.returned .nilIface) (w4.setCell ⟨gh,k*2,none⟩ (.slice (some ⟨g',0,none⟩) (n+1) k'))):=fun w4 g' k' hb hown=>by
  have hz:=B2.size
  have kk:Keep [gh] w (w4.setCell ⟨gh,k*2,none⟩ (.slice (some ⟨g',0,none⟩) (n+1) k')):=(Keep.of (B2.trans (hb.mono hz))).setCell (p:=⟨gh,k*2,none⟩) (.inl sI) _
  have hg4:=hown.lt g' rfl
  have hs:((w2.alloc (.cells #[.int .i64 o.1,.int .i64 o.2] 49)).drew).heap.size=w2.heap.size+1:=sI
  rw[hs] at hg4
  have hgX:g'∉X:=fun q=>by have:=(HH.out.lim g' q).2;omega
  have k4:Keep [gh] w4 (w4.setCell ⟨gh,k*2,none⟩ (.slice (some ⟨g',0,none⟩) (n+1) k')):=(Keep.refl _ _).setCell (p:=⟨gh,k*2,none⟩) (.inl sI) _
  have hsx: ∀s∈[gh],s∈X∨w4.heap.size≤s:=fun s q=>by simp at q;subst q;exact .inl (HH.out.de.mem s HH.out.jm)
  have en:n+1=(l++[o]).length:=by rw[hn];simp
  have ro:j5 X w4 (.slice (some ⟨g',0,none⟩) (n+1) k') (l++[o]):=by
   rw[en] at hown ⊢
   exact nG hown (fun g q=>by
    have:g=g':=by simpa[Value.ownBlock,eq_comm] using q
    subst this;exact hgX)
  have hl:=vH (HLH.out.keep (Keep.of (S:=[]) hb) sI) HP.out (.slice (some ⟨g',0,none⟩) (n+1) k')
  refine⟨rfl,X,⟨_,_,_,_,_,HH.out.Ci k (p':=(.slice (some ⟨g',0,none⟩) (n+1) k',pb)) (h':=(l++[o],r)) hkl kk (ro.keep k4 hsx) ((HR2.out.below hb).keep k4 hsx) hl,hF.out⟩,kk.mono (fun s q=>by simp at q;subst q;exact HH.out.G9 hF.out HH.out.jm),fun _ q=>.inl q,fun _ q=>q⟩
 clear r1 r2 rc hp hn B2 HD HOU m0 m1 ml
 go_wp2_with fail
 refine iP (S:=(fun w'=>w'.cell? ⟨gh,k*2,none⟩=some (.slice qa n ca)∧w'.cell? ⟨w.heap.size,0,none⟩=some (.int .i64 o.1)∧w'.cell? ⟨w.heap.size,1,none⟩=some (.int .i64 o.2))) 9 #[false,false,false,false,false,false,false,false,false] rfl kR kR (by(try dsimp only);go_keep) (fun hHeld=> ?_)
 simp only[aV,bB]
 refine ctk (i:=0) (v:= ?_) rfl (fun _ _ _ h=>h) (Or.inl ⟨rf,?_⟩) ?_
 rotate_left
 ·(intro w hSw;(try dsimp only at hSw);go_simp<;>with_reducible rfl)
 try simp only[Act.put,pA,pZ,pS]
 refine ctk (i:=1) (v:= ?_) rfl (fun _ _ _ h=>h) (Or.inl ⟨rf,?_⟩) ?_
 rotate_left
 ·(intro w hSw;(try dsimp only at hSw);go_simp<;>with_reducible rfl)
 try simp only[Act.put,pA,pZ,pS]
 refine ctk (i:=2) (v:= ?_) rfl (fun _ _ _ h=>h) (Or.inl ⟨rf,?_⟩) ?_
 rotate_left
 ·(intro w hSw;(try dsimp only at hSw);go_simp<;>with_reducible rfl)
 try simp only[Act.put,pA,pZ,pS]
 refine ctk (i:=3) (v:= ?_) rfl (fun _ _ _ h=>h) (Or.inl ⟨rf,?_⟩) ?_
 rotate_left
 ·(intro w hSw;(try dsimp only at hSw);go_simp<;>with_reducible rfl)
 try simp only[Act.put,pA,pZ,pS]
 refine ctk (i:=4) (v:= ?_) rfl (fun _ _ _ h=>h) (Or.inl ⟨rf,?_⟩) ?_
 rotate_left
 ·(intro w hSw;(try dsimp only at hSw);go_simp<;>with_reducible rfl)
 try simp only[Act.put,pA,pZ,pS]
 refine ctk (i:=6) (v:= ?_) rfl (fun _ _ _ h=>h) (Or.inl ⟨rf,?_⟩) ?_
 rotate_left
 ·(intro w hSw;(try dsimp only at hSw);go_simp<;>with_reducible rfl)
 try simp only[Act.put,pA,pZ,pS]
 refine wpAnyH_ready (rs:=[5,7]) kR sI ?_
 refine aY (iH rfl) (fun K hK=> ?_) (aY (iH rfl) (fun K hK=> ?_) bC)
 ·refine o7 rf 149 #[.slice qa n ca] kR (.slice qa n n) _ (CL.out _) ?_
  refine hK.out _ _ (by(try dsimp only);go_keep) (fun hHeld=> ?_)
  clear hK K
  try simp only[Act.put,pA,pZ,pS]
  refine wpAnyH_ready (rs:=[7]) kR sI ?_
  refine aY (iH rfl) (fun K hK=> ?_) bC
  go_simp
  refine hK.out _ _ (by(try dsimp only);go_keep) (fun hHeld=> ?_)
  clear hK K
  try simp only[Act.put,pA,pZ,pS]
  refine wpAnyH_ready (rs:=[8]) kR sI ?_
  refine aY (iH rfl) (fun K hK=> ?_) bC
  refine o8 (X:=X) (w:=(w2.alloc (.cells #[.int .i64 o.1,.int .i64 o.2] 49)).drew) EN.out rf (.tmp 66) (.tmp 68) rf rf rf ((HRC.out.below iB)) om (ob:=o) (ad:=⟨w2.heap.size,0,none⟩) (by rw[addr_add];exact NB0.out) (by rw[addr_add];exact NB1.out) ?_
  intro g' k' w4 iK hb4
  have B4:Below w2.heap.size w2 w4:=(show Below w2.heap.size w2 ((w2.alloc (.cells #[.int .i64 o.1,.int .i64 o.2] 49)).drew) from iB).trans (hb4.mono sI)
  have y0:=(B4.cell (p:=⟨gh,k*2,none⟩) gl).trans g0
  have y1:=(B4.cell (p:=⟨w.heap.size,0,none⟩) xl).trans x0
  have y2:=(B4.cell (p:=⟨w.heap.size,1,none⟩) xl).trans x1
  have yf:=(B4.frozen (p:=⟨gh,k*2,none⟩) gl).trans f0
  have yl:gh<w4.heap.size:=aF gl B4.size
  refine hK.out _ _ (by(try dsimp only);go_keep) (fun hHeld=> ?_)
  clear hK K
  try simp only[Act.put,pA,pZ,pS]
  refine wpAnyH_done kR ?_ _
  simp only[nR,aS,bq]
  have HO4:=ah iK;have HB4:=ah B4
  clear iK hb4 B4 hHeld
  go_wp2
  go_ret
  exact FIN.out w4 g' k' HB4.out HO4.out
 ·go_simp
  refine hK.out _ _ (by(try dsimp only);go_keep) (fun hHeld=> ?_)
  clear hK K
  try simp only[Act.put,pA,pZ,pS]
  refine wpAnyH_ready (rs:=[5]) kR sI ?_
  refine aY (iH rfl) (fun K hK=> ?_) bC
  refine o7 rf 149 #[.slice qa n ca] kR (.slice qa n n) _ (CL.out _) ?_
  refine hK.out _ _ (by(try dsimp only);go_keep) (fun hHeld=> ?_)
  clear hK K
  try simp only[Act.put,pA,pZ,pS]
  refine wpAnyH_ready (rs:=[8]) kR sI ?_
  refine aY (iH rfl) (fun K hK=> ?_) bC
  refine o8 (X:=X) (w:=(w2.alloc (.cells #[.int .i64 o.1,.int .i64 o.2] 49)).drew) EN.out rf (.tmp 66) (.tmp 68) rf rf rf ((HRC.out.below iB)) om (ob:=o) (ad:=⟨w2.heap.size,0,none⟩) (by rw[addr_add];exact NB0.out) (by rw[addr_add];exact NB1.out) ?_
  intro g' k' w4 iK hb4
  have B4:Below w2.heap.size w2 w4:=(show Below w2.heap.size w2 ((w2.alloc (.cells #[.int .i64 o.1,.int .i64 o.2] 49)).drew) from iB).trans (hb4.mono sI)
  have y0:=(B4.cell (p:=⟨gh,k*2,none⟩) gl).trans g0
  have y1:=(B4.cell (p:=⟨w.heap.size,0,none⟩) xl).trans x0
  have y2:=(B4.cell (p:=⟨w.heap.size,1,none⟩) xl).trans x1
  have yf:=(B4.frozen (p:=⟨gh,k*2,none⟩) gl).trans f0
  have yl:gh<w4.heap.size:=aF gl B4.size
  refine hK.out _ _ (by(try dsimp only);go_keep) (fun hHeld=> ?_)
  clear hK K
  try simp only[Act.put,pA,pZ,pS]
  refine wpAnyH_done kR ?_ _
  simp only[nR,aS,bq]
  have HO4:=ah iK;have HB4:=ah B4
  clear iK hb4 B4 hHeld
  go_wp2
  go_ret
  exact FIN.out w4 g' k' HB4.out HO4.out
theorem dgive_2 (k:Nat) (o:Ob) (h:CD B w X pd pc pz gh mn lw hi O e v A V vp U d) (hF:Hid (∀f∈F,f∈X∧f∉xd pc v A d.c.L pd gh vp)) (hI:jY e d) (o1: -9223372036854775808≤o.2) (o2:o.2≤9223372036854775807) {t:List Ob} (hk:d.H[k]?=some (t,[])) (hl4:t.length=4) (ho:vB e d o=true):
 Calls Tryz.prog 39 #[.pointer (some ⟨pd,0,none⟩),.int .i64 k,.agg #[.int .i64 o.1,.int .i64 o.2]] w (mW B ev pd pc pz gh mn lw hi O e X F w (iU e d k o)):=by
 have hkl:=(aj.1 hk).1
 have fd:jw (t,[]) d.P=(([],t),d.P):=by unfold jw;rw[if_pos hl4,if_pos rfl]
 rw[vJ hk ho,fd]
 have b1:Below w.heap.size w (w.alloc (.cells #[.int .i64 o.1,.int .i64 o.2] 49)):=iB
 have HL:=ah (show iy (w.alloc (.cells #[.int .i64 o.1,.int .i64 o.2] 49)) w.heap.size [.int .i64 o.1,.int .i64 o.2] from iy.mk_ w [.int .i64 o.1,.int .i64 o.2] 49 rfl)
 obtain⟨W1,hW1⟩: ∃W1,W1=w.alloc (.cells #[.int .i64 o.1,.int .i64 o.2] 49):=⟨_,rfl⟩
 rw[←hW1] at b1 HL
 have h1:=h.below b1
 have HD:=ah (lW h1 k hkl)
 have OU:=xY o h1 hI o1 o2
 rw[ho] at OU
 have HOU:=ah OU
 have m0:=HL.out.c 0 _ rfl;have m1:=HL.out.c 1 _ rfl;have ml:=HL.out.lt
 have HB1:=ah b1;have HH:=ah h
 have rg: ¬(w.heap.size=gh):=fun q=>by have:=(h.de.lim gh h.jm).2;omega
 have VL:Hid (k<V.length):=by show k<V.length;rw[h.de.hl];exact hkl
 clear h b1 h1 OU hI ho
 go_enter Tryz.func39,ig
 go_wp2_with fail
 rw[←hW1]
 clear hW1
 refine HD.out.mono ?_
 rintro r' w1 ⟨rfl,rfl⟩
 go_wp2_with fail
 refine HOU.out.mono ?_
 rintro r' w2 ⟨rfl,hb2⟩
 have B2:=HB1.out.trans (hb2.mono HB1.out.size)
 obtain⟨p,hp,r1,r2,g0,g1,f0,f1,gl⟩:=(HH.out.below B2).hand hk
 obtain⟨⟨pa,pb⟩,rfl⟩: ∃q,q=p:=⟨_,rfl⟩
 obtain⟨qt,ct,e1,_,_⟩:=r1.isSlice
 obtain⟨qa,ca,e2,_,_⟩:=r2.isSlice
 simp only at e1 e2 g0 g1 hp
 rw[show([]:List Ob).length=0 from rfl] at e2
 rw[hl4] at e1
 subst e1 e2
 have HLB2:=ah (HL.out.go hb2)
 have SW:=ah (Ce gh (k*2) qt qa 4 0 ct ca _ _ rfl rfl w2 g0 g1 f0 f1 gl)
 have HB2:=ah B2
 have HL3:Hid (iy ((w2.setCell ⟨gh,k*2,none⟩ (.slice qa 0 ca)).setCell ⟨gh,k*2+1,none⟩ (.slice qt 4 ct)).drew gh (iX (V.set k (.slice qa 0 ca,.slice qt 4 ct)))):=by
  have a1:=vH (HH.out.below B2).de.hs hp (.slice qa 0 ca)
  have a2:=hloc2 a1 (sJ VL.out _) (.slice qt 4 ct)
  rw[zH] at a2
  exact a2.jF
 have K3:Keep [gh] w2 ((w2.setCell ⟨gh,k*2,none⟩ (.slice qa 0 ca)).setCell ⟨gh,k*2+1,none⟩ (.slice qt 4 ct)).drew:=(((Keep.refl _ _).setCell (p:=⟨gh,k*2,none⟩) (.inl sI) _).setCell (p:=⟨gh,k*2+1,none⟩) (.inl sI) _).drew
 have hsx2: ∀s∈[gh],s∈X∨w2.heap.size≤s:=fun s q=>by simp at q;subst q;exact .inl (HH.out.de.mem s HH.out.jm)
 have R1:=ah (r1.keep K3 hsx2)
 have R2:=ah (r2.keep K3 hsx2)
 have HK3:=ah K3
 clear r1 r2 K3 HD HOU m0 m1 ml
 go_wp2_with fail
 refine SW.out.mono ?_
 rintro r' w3 ⟨rfl,hw3⟩
 rw[←hw3] at HL3 R1 R2 HK3
 have KW:=ah ((Keep.of (S:=[gh]) HB2.out).then HK3.out)
 have g0':=HL3.out.c (k*2) _ (jX (sJ VL.out _)).1
 have f0':=HL3.out.f (k*2) (by rw[iR,bM];have:=VL.out;omega)
 have gl':=HL3.out.lt
 have HLB:=ah (HLB2.out.keep HK3.out (by simpa using rg))
 have x0:=HLB.out.c 0 _ rfl;have x1:=HLB.out.c 1 _ rfl;have xl:=HLB.out.lt
 obtain⟨rc,nl,nc,qn⟩:=j5.clip (l:=[]) (by simpa using R2.out)
 clear nl
 have HRC:=ah rc
 simp only at g0'
 have CL:Hid (∀W,Calls Tryz.prog 149 #[.slice qa 0 ca] W fun e w'=>e= .returned (.slice qa 0 0)∧w'=W):=fun W=>xZ qa 0 ca W qn nc
 have VL3:Hid ((V.set k (.slice qa 0 ca,.slice qt 4 ct))[k]?=some (.slice qa 0 ca,.slice qt 4 ct)):=sJ VL.out _
 have NB0:Hid ((w3.alloc (.cells #[.int .i64 o.1,.int .i64 o.2] 49)).drew.cell? ⟨w3.heap.size,0+0,none⟩=some (.int .i64 o.1)):=(iy.mk_ w3 [.int .i64 o.1,.int .i64 o.2] 49 rfl).jF.c 0 _ rfl
 have NB1:Hid ((w3.alloc (.cells #[.int .i64 o.1,.int .i64 o.2] 49)).drew.cell? ⟨w3.heap.size,0+1,none⟩=some (.int .i64 o.2)):=(iy.mk_ w3 [.int .i64 o.1,.int .i64 o.2] 49 rfl).jF.c 1 _ rfl
 have FIN:Hid (∀w4 g' k',Below w3.heap.size w3 w4→w4.ownsRow ((w3.alloc (.cells #[.int .i64 o.1,.int .i64 o.2] 49)).drew).heap.size 49 2 (.slice (some ⟨g',0,none⟩) (0+1) k') (0+1) (jc ([]++[o]))→
  mW B ev pd pc pz gh mn lw hi O e X F w (⟨d.c,d.H.set k ([]++[o],t),d.P⟩,0) (.returned .nilIface) (w4.setCell ⟨gh,k*2,none⟩ (.slice (some ⟨g',0,none⟩) (0+1) k'))):=fun w4 g' k' hb hown=>by
  have hz:=KW.out.size
  have kk:Keep [gh] w (w4.setCell ⟨gh,k*2,none⟩ (.slice (some ⟨g',0,none⟩) (0+1) k')):=(KW.out.step hb).setCell (p:=⟨gh,k*2,none⟩) (.inl sI) _
  have hg4:=hown.lt g' rfl
  have hs:((w3.alloc (.cells #[.int .i64 o.1,.int .i64 o.2] 49)).drew).heap.size=w3.heap.size+1:=sI
  rw[hs] at hg4
  have hgX:g'∉X:=fun q=>by have:=(HH.out.lim g' q).2;omega
  have k4:Keep [gh] w4 (w4.setCell ⟨gh,k*2,none⟩ (.slice (some ⟨g',0,none⟩) (0+1) k')):=(Keep.refl _ _).setCell (p:=⟨gh,k*2,none⟩) (.inl sI) _
  have hsx: ∀s∈[gh],s∈X∨w4.heap.size≤s:=fun s q=>by simp at q;subst q;exact .inl (HH.out.de.mem s HH.out.jm)
  have ro:j5 X w4 (.slice (some ⟨g',0,none⟩) (0+1) k') ([]++[o]):=by
   exact nG (l:=[]++[o]) hown (fun g q=>by
    have:g=g':=by simpa[Value.ownBlock,eq_comm] using q
    subst this;exact hgX)
  have hl:=vH (HL3.out.keep (Keep.of (S:=[]) hb) sI) VL3.out (.slice (some ⟨g',0,none⟩) (0+1) k')
  rw[zH] at hl
  refine⟨rfl,X,⟨_,_,_,_,_,HH.out.Ci k (p':=(.slice (some ⟨g',0,none⟩) (0+1) k',.slice qt 4 ct)) (h':=([]++[o],t)) hkl kk (ro.keep k4 hsx) ((R1.out.below hb).keep k4 hsx) hl,hF.out⟩,kk.mono (fun s q=>by simp at q;subst q;exact HH.out.G9 hF.out HH.out.jm),fun _ q=>.inl q,fun _ q=>q⟩
 have EN:Hid (0=([]:List Ob).length):=rfl
 clear rc hp B2 g0 g1 f0 f1 gl hw3 SW hb2 nc qn fd hl4 hsx2
 go_wp2_with fail
 refine iP (S:=(fun w'=>w'.cell? ⟨gh,k*2,none⟩=some (.slice qa 0 ca)∧w'.cell? ⟨w.heap.size,0,none⟩=some (.int .i64 o.1)∧w'.cell? ⟨w.heap.size,1,none⟩=some (.int .i64 o.2))) 9 #[false,false,false,false,false,false,false,false,false] rfl kR kR (by(try dsimp only);go_keep) (fun hHeld=> ?_)
 simp only[aV,bB]
 refine ctk (i:=0) (v:= ?_) rfl (fun _ _ _ h=>h) (Or.inl ⟨rf,?_⟩) ?_
 rotate_left
 ·(intro w hSw;(try dsimp only at hSw);go_simp<;>with_reducible rfl)
 try simp only[Act.put,pA,pZ,pS]
 refine ctk (i:=1) (v:= ?_) rfl (fun _ _ _ h=>h) (Or.inl ⟨rf,?_⟩) ?_
 rotate_left
 ·(intro w hSw;(try dsimp only at hSw);go_simp<;>with_reducible rfl)
 try simp only[Act.put,pA,pZ,pS]
 refine ctk (i:=2) (v:= ?_) rfl (fun _ _ _ h=>h) (Or.inl ⟨rf,?_⟩) ?_
 rotate_left
 ·(intro w hSw;(try dsimp only at hSw);go_simp<;>with_reducible rfl)
 try simp only[Act.put,pA,pZ,pS]
 refine ctk (i:=3) (v:= ?_) rfl (fun _ _ _ h=>h) (Or.inl ⟨rf,?_⟩) ?_
 rotate_left
 ·(intro w hSw;(try dsimp only at hSw);go_simp<;>with_reducible rfl)
 try simp only[Act.put,pA,pZ,pS]
 refine ctk (i:=4) (v:= ?_) rfl (fun _ _ _ h=>h) (Or.inl ⟨rf,?_⟩) ?_
 rotate_left
 ·(intro w hSw;(try dsimp only at hSw);go_simp<;>with_reducible rfl)
 try simp only[Act.put,pA,pZ,pS]
 refine ctk (i:=6) (v:= ?_) rfl (fun _ _ _ h=>h) (Or.inl ⟨rf,?_⟩) ?_
 rotate_left
 ·(intro w hSw;(try dsimp only at hSw);go_simp<;>with_reducible rfl)
 try simp only[Act.put,pA,pZ,pS]
 refine wpAnyH_ready (rs:=[5,7]) kR sI ?_
 refine aY (iH rfl) (fun K hK=> ?_) (aY (iH rfl) (fun K hK=> ?_) bC)
 ·refine o7 rf 149 #[.slice qa 0 ca] kR (.slice qa 0 0) _ (CL.out _) ?_
  refine hK.out _ _ (by(try dsimp only);go_keep) (fun hHeld=> ?_)
  clear hK K
  try simp only[Act.put,pA,pZ,pS]
  refine wpAnyH_ready (rs:=[7]) kR sI ?_
  refine aY (iH rfl) (fun K hK=> ?_) bC
  go_simp
  refine hK.out _ _ (by(try dsimp only);go_keep) (fun hHeld=> ?_)
  clear hK K
  try simp only[Act.put,pA,pZ,pS]
  refine wpAnyH_ready (rs:=[8]) kR sI ?_
  refine aY (iH rfl) (fun K hK=> ?_) bC
  refine o8 (X:=X) (w:=(w3.alloc (.cells #[.int .i64 o.1,.int .i64 o.2] 49)).drew) EN.out rf (.tmp 66) (.tmp 68) rf rf rf ((HRC.out.below iB)) om (ob:=o) (ad:=⟨w3.heap.size,0,none⟩) (by rw[addr_add];exact NB0.out) (by rw[addr_add];exact NB1.out) ?_
  intro g' k' w4 iK hb4
  have B4:Below w3.heap.size w3 w4:=(show Below w3.heap.size w3 ((w3.alloc (.cells #[.int .i64 o.1,.int .i64 o.2] 49)).drew) from iB).trans (hb4.mono sI)
  have y0:=(B4.cell (p:=⟨gh,k*2,none⟩) gl').trans g0'
  have y1:=(B4.cell (p:=⟨w.heap.size,0,none⟩) xl).trans x0
  have y2:=(B4.cell (p:=⟨w.heap.size,1,none⟩) xl).trans x1
  have yf:=(B4.frozen (p:=⟨gh,k*2,none⟩) gl').trans f0'
  have yl:gh<w4.heap.size:=aF gl' B4.size
  refine hK.out _ _ (by(try dsimp only);go_keep) (fun hHeld=> ?_)
  clear hK K
  try simp only[Act.put,pA,pZ,pS]
  refine wpAnyH_done kR ?_ _
  simp only[nR,aS,bq]
  have HO4:=ah iK;have HB4:=ah B4
  clear iK hb4 B4 hHeld
  go_wp2
  go_ret
  exact FIN.out w4 g' k' HB4.out HO4.out
 ·go_simp
  refine hK.out _ _ (by(try dsimp only);go_keep) (fun hHeld=> ?_)
  clear hK K
  try simp only[Act.put,pA,pZ,pS]
  refine wpAnyH_ready (rs:=[5]) kR sI ?_
  refine aY (iH rfl) (fun K hK=> ?_) bC
  refine o7 rf 149 #[.slice qa 0 ca] kR (.slice qa 0 0) _ (CL.out _) ?_
  refine hK.out _ _ (by(try dsimp only);go_keep) (fun hHeld=> ?_)
  clear hK K
  try simp only[Act.put,pA,pZ,pS]
  refine wpAnyH_ready (rs:=[8]) kR sI ?_
  refine aY (iH rfl) (fun K hK=> ?_) bC
  refine o8 (X:=X) (w:=(w3.alloc (.cells #[.int .i64 o.1,.int .i64 o.2] 49)).drew) EN.out rf (.tmp 66) (.tmp 68) rf rf rf ((HRC.out.below iB)) om (ob:=o) (ad:=⟨w3.heap.size,0,none⟩) (by rw[addr_add];exact NB0.out) (by rw[addr_add];exact NB1.out) ?_
  intro g' k' w4 iK hb4
  have B4:Below w3.heap.size w3 w4:=(show Below w3.heap.size w3 ((w3.alloc (.cells #[.int .i64 o.1,.int .i64 o.2] 49)).drew) from iB).trans (hb4.mono sI)
  have y0:=(B4.cell (p:=⟨gh,k*2,none⟩) gl').trans g0'
  have y1:=(B4.cell (p:=⟨w.heap.size,0,none⟩) xl).trans x0
  have y2:=(B4.cell (p:=⟨w.heap.size,1,none⟩) xl).trans x1
  have yf:=(B4.frozen (p:=⟨gh,k*2,none⟩) gl').trans f0'
  have yl:gh<w4.heap.size:=aF gl' B4.size
  refine hK.out _ _ (by(try dsimp only);go_keep) (fun hHeld=> ?_)
  clear hK K
  try simp only[Act.put,pA,pZ,pS]
  refine wpAnyH_done kR ?_ _
  simp only[nR,aS,bq]
  have HO4:=ah iK;have HB4:=ah B4
  clear iK hb4 B4 hHeld
  go_wp2
  go_ret
  exact FIN.out w4 g' k' HB4.out HO4.out
end
end
section
open Go.RowKit Go.Maps
attribute [local go_sem ↓] aW aX
section
variable {X Y S F:List Nat} {B:Nat} {ev:Nat→Addr} {w w':World} {pd pc pz gh e:Nat} {mn lw hi:Int} {O:List (List Int)} {v vp vp':Value} {A:SA} {V:HV} {U U':List Value} {d:De} {c:Ca} {P':List (List Ob)}
theorem CD.push (h:CD B w X pd pc pz gh mn lw hi O e v A V vp U d) (k:Nat) {p':Value×Value} {h':Hd} (hk:k<d.H.length) (kk:Keep (gh::pd::iF vp) w w')
 (hd:iy w' pd [.pointer (some ⟨pc,0,none⟩),.slice (some ⟨gh,0,none⟩) d.H.length d.H.length,vp']) (row:w'.ownsRow B 79 1 vp' P'.length U') (ul:U'.length=P'.length)
 (hv: ∀y∈iF vp',y∈iF vp∨w.heap.size≤y) (hg:iy w' gh (iX (V.set k p')))
 (r1:j5 (X++xd pc v A d.c.L pd gh vp') w' p'.1 h'.1) (r2:j5 (X++xd pc v A d.c.L pd gh vp') w' p'.2 h'.2)
 (po: ∀(i:Nat) (u:Value) (m:List Ob),U'[i]?=some u→P'[i]?=some m→j5 (X++xd pc v A d.c.L pd gh vp') w' u m):
 CD B w' (X++xd pc v A d.c.L pd gh vp') pd pc pz gh mn lw hi O e v A (V.set k p') vp' U' ⟨d.c,d.H.set k h',P'⟩∧∀x∈X++xd pc v A d.c.L pd gh vp',x∈X∨w.heap.size≤x:=by
 obtain⟨n0,nn⟩:=aZ.1 h.de.nd
 obtain⟨n1,n2⟩:=aZ.1 nn
 have fg:=h.far gh h.jm
 have fp:=h.far pd h.mU
 have fo: ∀y∈iF vp,y∈X∧y∉cay pc v A∧y∉ys d.c.L:=fun y hy=>h.far y (ak _ (ak _ hy))
 have hS: ∀s∈gh::pd::iF vp,s∈X∧s∉cay pc v A∧s∉ys d.c.L:=fun s q=>by
  rcases aC.1 q with rfl|q
  ·exact fg
  ·rcases aC.1 q with rfl|q
   ·exact fp
   ·exact fo s q
 have new: ∀x∈X++xd pc v A d.c.L pd gh vp',x∈X∨w.heap.size≤x:=fun x hx=>by
  rcases aG.1 hx with q|q
  ·exact .inl q
  ·rcases aG.1 q with q|q
   ·rcases aC.1 q with rfl|q
    ·exact .inl fp.1
    ·rcases aC.1 q with rfl|q
     ·exact .inl fg.1
     ·exact(hv x q).imp (fun r=>(fo x r).1) id
   ·exact .inl (h.x x (aA _ q))
 have hlp:=h.de.lim pd h.mU
 have hlg:=h.de.lim gh h.jm
 have hz:=kk.size
 have cs1:CS B w' pc pz mn lw hi O e (X++xd pc v A d.c.L pd gh vp') v A d.c:=by
  have m1:=h.cs.more (Y:=X++xd pc v A d.c.L pd gh vp') (fun x hx=>av _ hx) new
  exact m1.keep kk (fun s q=>⟨(hS s q).2.1,.inl ⟨av _ (hS s q).1,(hS s q).2.2⟩⟩)
 refine⟨⟨fun y hy=>aA _ hy,fun y hy=> ?_,cs1,?_,fun y hy=> ?_⟩,new⟩
 ·rcases aG.1 hy with q|q
  ·exact h.limK kk y q
  ·rcases aG.1 q with q|q
   ·rcases aC.1 q with rfl|q
    ·exact⟨hlp.1,om⟩
    ·rcases aC.1 q with rfl|q
     ·exact⟨hlg.1,om⟩
     ·exact iN row q
   ·rcases aG.1 q with q|q
    ·exact⟨(h.cs.ch.lim y q).1,by have:=(h.cs.ch.lim y q).2;omega⟩
    ·exact⟨(h.cs.z.b.lim y q).1,by have:=(h.cs.z.b.lim y q).2;omega⟩
 ·have m1:=h.de.more (Y:=X++xd pc v A d.c.L pd gh vp') new (fun y q=>av _ (h.de.mem y q))
  refine⟨by rw[bM];exact hd,hg,by simp[h.de.hl],fun i p g hp hg'=> ?_,row,ul,po,fun y hy=>aA _ (av _ hy),?_,fun y hy=> ?_⟩
  ·by_cases q:k=i
   ·subst q
    rw[aL (by rw[h.de.hl];exact hk)] at hp
    rw[aL hk] at hg'
    obtain rfl:=aH hp
    obtain rfl:=aH hg'
    exact⟨r1,r2⟩
   ·rw[bD q] at hp hg'
    have hs: ∀s∈gh::pd::iF vp,s∈X++xd pc v A d.c.L pd gh vp'∨w.heap.size≤s:=fun s q=>.inl (av _ (hS s q).1)
    exact⟨(m1.ho i p g hp hg').1.keep kk hs,(m1.ho i p g hp hg').2.keep kk hs⟩
  ·refine aZ.2 ⟨fun q=> ?_,aZ.2 ⟨fun q=> ?_,by unfold iF;cases vp'.ownBlock<;>simp⟩⟩
   ·rcases aC.1 q with r|r
    ·exact n0 (r▸aD ..)
    ·rcases hv pd r with t|t
     ·exact n0 (ak _ t)
     ·omega
   ·rcases hv gh q with t|t
    ·exact n1 t
    ·omega
  ·rcases aC.1 hy with rfl|q
   ·exact⟨hlp.1,om⟩
   ·rcases aC.1 q with rfl|q
    ·exact⟨hlg.1,om⟩
    ·have:=iN row q;exact this
 ·rcases aC.1 hy with rfl|q
  ·exact fp.2
  ·rcases aC.1 q with rfl|q
   ·exact fg.2
   ·rcases hv y q with r|r
    ·exact(fo y r).2
    ·exact⟨fun t=>by have:=(h.cs.ch.lim y t).2;omega,fun t=>by have:=(h.cs.z.b.lim y t).2;omega⟩
theorem dgive_3 (k:Nat) (o:Ob) (hE0:B≤w.heap.size) (h:CD B w X pd pc pz gh mn lw hi O e v A V vp U d) (hF:Hid (∀f∈F,f∈X∧f∉xd pc v A d.c.L pd gh vp)) (hI:jY e d) (o1: -9223372036854775808≤o.2) (o2:o.2≤9223372036854775807) {t r:List Ob} (hk:d.H[k]?=some (t,r)) (hl4:t.length=4) (hr:r≠[]) (ho:vB e d o=true):
 Calls Tryz.prog 39 #[.pointer (some ⟨pd,0,none⟩),.int .i64 k,.agg #[.int .i64 o.1,.int .i64 o.2]] w (mW B ev pd pc pz gh mn lw hi O e X F w (iU e d k o)):=by
 have hkl:=(aj.1 hk).1
 have fd:jw (t,r) d.P=(([],r),d.P++[t]):=by unfold jw;rw[if_pos hl4,if_neg hr]
 rw[vJ hk ho,fd]
 have b1:Below w.heap.size w (w.alloc (.cells #[.int .i64 o.1,.int .i64 o.2] 49)):=iB
 have HL:=ah (show iy (w.alloc (.cells #[.int .i64 o.1,.int .i64 o.2] 49)) w.heap.size [.int .i64 o.1,.int .i64 o.2] from iy.mk_ w [.int .i64 o.1,.int .i64 o.2] 49 rfl)
 obtain⟨W1,hW1⟩: ∃W1,W1=w.alloc (.cells #[.int .i64 o.1,.int .i64 o.2] 49):=⟨_,rfl⟩
 rw[←hW1] at b1 HL
 have h1:=h.below b1
 have HD:=ah (lW h1 k hkl)
 have pl:d.P.length≤65535:=by
  have hh:=(ji hI).1
  have h2:=jy hI.c
  omega
 have OU:=xY o h1 hI o1 o2
 rw[ho] at OU
 have HOU:=ah OU
 have m0:=HL.out.c 0 _ rfl;have m1:=HL.out.c 1 _ rfl;have ml:=HL.out.lt
 have HB1:=ah b1;have HH:=ah h;have HE0:=ah hE0
 have rg: ¬(w.heap.size=gh):=fun q=>by have:=(h.de.lim gh h.jm).2;omega
 have VL:Hid (k<V.length):=by show k<V.length;rw[h.de.hl];exact hkl
 clear h b1 h1 OU hI ho
 go_enter Tryz.func39,ig
 go_wp2_with fail
 rw[←hW1]
 clear hW1
 refine HD.out.mono ?_
 rintro r' w1 ⟨rfl,rfl⟩
 go_wp2_with fail
 refine HOU.out.mono ?_
 rintro r' w2 ⟨rfl,hb2⟩
 have B2:=HB1.out.trans (hb2.mono HB1.out.size)
 obtain⟨p,hp,r1,r2,g0,g1,f0,f1,gl⟩:=(HH.out.below B2).hand hk
 obtain⟨p',hp',rt,rr,_⟩:=HH.out.hand hk
 rw[hp] at hp'
 obtain rfl:=aH hp'
 obtain⟨⟨pa,pb⟩,rfl⟩: ∃q,q=p:=⟨_,rfl⟩
 obtain⟨qt,ct,e1,_,_⟩:=r1.isSlice
 obtain⟨qr,cr,e2,_,_⟩:=r2.isSlice
 simp only at e1 e2 g0 g1 hp rt rr
 rw[hl4] at e1
 subst e1 e2
 have hrl:r.length≠0:=fun q=>hr (eF.1 q)
 obtain⟨nr,hnr⟩: ∃nr,nr=r.length:=⟨_,rfl⟩
 rw[←hnr] at g1 hrl
 have d5:decide (nr=0)=false:=decide_eq_false hrl
 have d5':((nr:Int)==0)=false:=by simp;omega
 have HDE:=ah (HH.out.below B2).de
 obtain⟨qp,kp,rfl⟩: ∃qp kp,vp= .slice qp d.P.length kp:=by
  rcases HDE.out.row.2 with⟨a1,a2⟩|⟨_,cap',_,a1,_⟩
  ·exact⟨none,0,by rw[a1,a2]⟩
  ·exact⟨_,cap',a1⟩
 have c2:=HDE.out.d.c 2 _ rfl;have cl:=HDE.out.d.lt;have cf:=HDE.out.d.f 2 sI
 have HLB2:=ah (HL.out.go hb2)
 have x0:=HLB2.out.c 0 _ rfl;have x1:=HLB2.out.c 1 _ rfl;have xl:=HLB2.out.lt
 have HB2:=ah B2;have HP:=ah hp;have RT:=ah rt;have RR:=ah rr
 have HNR:=ah hnr
 obtain⟨N,hN⟩: ∃N,N=d.P.length:=⟨_,rfl⟩
 have EN:=ah hN
 have HUL:=ah (show U.length=N by rw[hN];exact HDE.out.ul)
 rw[←hN] at c2 pl
 have OW:Hid (((w2.alloc (.cells #[.slice qt 4 ct] 79)).drew).ownsRow B 79 1 (.slice qp N kp) U.length U):=by
  have ho:=HDE.out.row
  rw[←hN] at ho
  show World.ownsRow _ _ _ _ _ _ _
  rw[HUL.out]
  exact(ho.alloc _).drew
 have SRC:Hid (rY ((w2.alloc (.cells #[.slice qt 4 ct] 79)).drew) (some ⟨w2.heap.size,0,none⟩) [.slice qt 4 ct]):=Fj ((iy.mk_ w2 [.slice qt 4 ct] 79 rfl).jF)
 have PGN:Hid (¬(pd=gh)):=fun q=>(aZ.1 HDE.out.nd).1 (q▸aD ..)
 have NPO:Hid (pd∉iF (.slice qp d.P.length kp)∧gh∉iF (.slice qp d.P.length kp)):=⟨fun q=>(aZ.1 HDE.out.nd).1 (ak _ q),(aZ.1 (aZ.1 HDE.out.nd).2).1⟩
 have eo:iF (.slice qp N kp)=iF (.slice qp d.P.length kp):=by rw[hN]
 have EO:=ah eo
 have bxn:w.heap.size∉iF (.slice qp d.P.length kp):=fun q=>by
  have:=(HH.out.de.lim w.heap.size (ak _ (ak _ q))).2
  omega
 have BXN:=ah bxn
 clear r1 r2 rt rr hp hp' hnr hN hr fd hl4 bxn eo B2 HD HOU m0 m1 ml
 go_wp2_with fail
 refine iP (S:=(fun w'=>w'.cell? ⟨pd,2,none⟩=some (.slice qp N kp)∧w'.cell? ⟨gh,k*2,none⟩=some (.slice qt 4 ct))) 11 #[false,false,false,false,false,false,false,false,false,false,false] rfl kR kR (by(try dsimp only);go_keep) (fun hHeld=> ?_)
 simp only[aV,bB]
 refine ctk (i:=0) (v:= ?_) rfl (fun _ _ _ h=>h) (Or.inl ⟨rf,?_⟩) ?_
 rotate_left
 ·(intro w hSw;(try dsimp only at hSw);go_simp<;>with_reducible rfl)
 try simp only[Act.put,pA,pZ,pS]
 refine ctk (i:=1) (v:= ?_) rfl (fun _ _ _ h=>h) (Or.inl ⟨rf,?_⟩) ?_
 rotate_left
 ·(intro w hSw;(try dsimp only at hSw);go_simp<;>with_reducible rfl)
 try simp only[Act.put,pA,pZ,pS]
 refine ctk (i:=2) (v:= ?_) rfl (fun _ _ _ h=>h) (Or.inl ⟨rf,?_⟩) ?_
 rotate_left
 ·(intro w hSw;(try dsimp only at hSw);go_simp<;>with_reducible rfl)
 try simp only[Act.put,pA,pZ,pS]
 refine ctk (i:=3) (v:= ?_) rfl (fun _ _ _ h=>h) (Or.inl ⟨rf,?_⟩) ?_
 rotate_left
 ·(intro w hSw;(try dsimp only at hSw);go_simp<;>with_reducible rfl)
 try simp only[Act.put,pA,pZ,pS]
 refine ctk (i:=4) (v:= ?_) rfl (fun _ _ _ h=>h) (Or.inl ⟨rf,?_⟩) ?_
 rotate_left
 ·(intro w hSw;(try dsimp only at hSw);go_simp<;>with_reducible rfl)
 try simp only[Act.put,pA,pZ,pS]
 refine ctk (i:=5) (v:= ?_) rfl (fun _ _ _ h=>h) (Or.inl ⟨rf,?_⟩) ?_
 rotate_left
 ·(intro w hSw;(try dsimp only at hSw);go_simp<;>with_reducible rfl)
 try simp only[Act.put,pA,pZ,pS]
 refine ctk (i:=6) (v:= ?_) rfl (fun _ _ _ h=>h) (Or.inl ⟨rf,?_⟩) ?_
 rotate_left
 ·(intro w hSw;(try dsimp only at hSw);go_simp<;>with_reducible rfl)
 try simp only[Act.put,pA,pZ,pS]
 refine ctk (i:=7) (v:= ?_) rfl (fun _ _ _ h=>h) (Or.inl ⟨rf,?_⟩) ?_
 rotate_left
 ·(intro w hSw;(try dsimp only at hSw);go_simp<;>with_reducible rfl)
 try simp only[Act.put,pA,pZ,pS]
 refine ctk (i:=8) (v:= ?_) rfl (fun _ _ _ h=>h) (Or.inl ⟨rf,?_⟩) ?_
 rotate_left
 ·(intro w hSw;(try dsimp only at hSw);go_simp<;>with_reducible rfl)
 try simp only[Act.put,pA,pZ,pS]
 refine wpAnyH_ready (rs:=[9]) kR sI ?_
 refine aY (iH rfl) (fun K hK=> ?_) bC
 go_simp
 refine hK.out _ _ (by(try dsimp only);go_keep) (fun hHeld=> ?_)
 clear hK K
 try simp only[Act.put,pA,pZ,pS]
 refine wpAnyH_ready (rs:=[10]) kR sI ?_
 refine aY (iH rfl) (fun K hK=> ?_) bC
 refine mJ G8 (base:=B) (v:=.slice qp N kp) (us:=U) (ms:=[.slice qt 4 ct]) (p:=some ⟨w2.heap.size,0,none⟩) rf (.tmp 49) (.tmp 54) rf rf 1 rf rfl OW.out SRC.out (by intro x hx;simp at hx;subst hx;rfl) (by rw[HUL.out];simp;omega) (by have:=HE0.out;have:=HB2.out.size;simp;omega) ?_
 intro q4 k4 w4 iK hg4 ho4
 have e5:(U++[Value.slice qt 4 ct]).length=N+1:=by simp[HUL.out]
 rw[e5] at iK ho4 ⊢
 have K24:Keep (iF (.slice qp d.P.length kp)) w2 w4:=by
  have k1:Keep (iF (.slice qp d.P.length kp)) w2 ((w2.alloc (.cells #[.slice qt 4 ct] 79)).drew):=Keep.of iB
  have k2:=jh hg4
  rw[EO.out] at k2
  exact k1.then k2
 have y0:=(K24.cell (o:=2) cl NPO.out.1).trans c2
 have y1:=(K24.cell (o:=k*2) gl NPO.out.2).trans g0
 have y2:=(K24.frozen (o:=2) cl NPO.out.1).trans cf
 have y3:=(K24.frozen (o:=k*2) gl NPO.out.2).trans f0
 have yl:=aF gl K24.size
 have ycl:=aF cl K24.size
 refine hK.out _ _ (by(try dsimp only);go_keep) (fun hHeld=> ?_)
 clear hK K
 try simp only[Act.put,pA,pZ,pS]
 refine wpAnyH_done kR ?_ _
 simp only[nR,aS,bq]
 have HOWN:=ah iK
 have HVN:Hid (∀y∈iF (.slice q4 (N+1) k4),y∈iF (.slice qp d.P.length kp)∨w2.heap.size≤y):=fun y hy=>by
  rcases rZ ho4 y hy with r|r
  ·rw[EO.out] at r;exact .inl r
  ·exact .inr (by simp at r;omega)
 have HK24:=ah K24
 have PG:=PGN.out
 have GP: ¬(gh=pd):=fun q=>PG q.symm
 have rp: ¬(w.heap.size=pd):=fun q=>by have:=(HH.out.de.lim pd HH.out.mU).2;omega
 clear iK ho4 hg4 e5 K24 hHeld
 go_wp2_with fail
 obtain⟨w5,hw5⟩: ∃w5,w5=(w4.setCell ⟨pd,2,none⟩ (.slice q4 (N+1) k4)).setCell ⟨gh,k*2,none⟩ (.slice none 0 0):=⟨_,rfl⟩
 rw[←hw5]
 have K5:Keep [gh,pd] w4 w5:=by rw[hw5];exact((Keep.refl _ _).setCell (p:=⟨pd,2,none⟩) (.inl sI) _).setCell (p:=⟨gh,k*2,none⟩) (.inl sI) _
 have L5d:iy w5 pd [.pointer (some ⟨pc,0,none⟩),.slice (some ⟨gh,0,none⟩) d.H.length d.H.length,.slice q4 (N+1) k4]:=by
  rw[hw5]
  exact((HDE.out.d.keep HK24.out NPO.out.1).store 2 (.slice q4 (N+1) k4) sI).far GP _ _
 have L5h:iy w5 gh (iX (V.set k (.slice none 0 0,.slice qr r.length cr))):=by
  rw[hw5]
  exact vH ((HDE.out.hs.keep HK24.out NPO.out.2).far PG 2 (.slice q4 (N+1) k4)) HP.out (.slice none 0 0)
 have hk5: ∀s∈iF (.slice qp d.P.length kp),s∈gh::pd::iF (.slice qp d.P.length kp):=fun s q=>ak _ (ak _ q)
 have KW5:=ah (((Keep.of (S:=gh::pd::iF (.slice qp d.P.length kp)) HB2.out).then (HK24.out.mono hk5)).then (K5.mono (fun s q=>by simp at q;rcases q with rfl|rfl<;>simp)))
 have g0':=L5h.c (k*2) _ (jX (sJ VL.out _)).1
 have f0':=L5h.f (k*2) (by rw[iR,bM];have:=VL.out;omega)
 have gl':=L5h.lt
 have HLB:=ah ((HLB2.out.keep HK24.out BXN.out).keep K5 (by simpa using⟨rg,rp⟩))
 have HO5:Hid (w5.ownsRow B 79 1 (.slice q4 (N+1) k4) (N+1) (U++[.slice qt 4 ct])):=iE HOWN.out K5 (fun s hs q=>by
  have hsl:s=gh∨s=pd:=by simpa using hs
  have hlp:=(HDE.out.lim pd (aD ..)).2
  have hlg:=(HDE.out.lim gh (ak _ (aD ..))).2
  rcases HVN.out s q with t1|t1
  ·rcases hsl with rfl|rfl
   ·exact NPO.out.2 t1
   ·exact NPO.out.1 t1
  ·rcases hsl with rfl|rfl<;>omega)
 have HL5d:=ah L5d;have HL5h:=ah L5h
 clear x0 x1 xl y0 y1 y2 y3 yl ycl c2 cl cf g0 g1 f0 f1 gl hw5 K5 L5d L5h hk5
 have x0:=HLB.out.c 0 _ rfl;have x1:=HLB.out.c 1 _ rfl;have xl:=HLB.out.lt
 simp only at g0'
 have HRC:Hid (j5 X w5 (.slice none 0 0) []):=j5.nil X w5
 have CL:Hid (∀W,Calls Tryz.prog 149 #[.slice none 0 0] W fun e w'=>e= .returned (.slice none 0 0)∧w'=W):=fun W=>xZ none 0 0 W (fun _=>rfl) (aI _)
 have VL3:Hid ((V.set k (.slice none 0 0,.slice qr r.length cr))[k]?=some (.slice none 0 0,.slice qr r.length cr)):=sJ VL.out _
 have NB0:Hid ((w5.alloc (.cells #[.int .i64 o.1,.int .i64 o.2] 49)).drew.cell? ⟨w5.heap.size,0+0,none⟩=some (.int .i64 o.1)):=(iy.mk_ w5 [.int .i64 o.1,.int .i64 o.2] 49 rfl).jF.c 0 _ rfl
 have NB1:Hid ((w5.alloc (.cells #[.int .i64 o.1,.int .i64 o.2] 49)).drew.cell? ⟨w5.heap.size,0+1,none⟩=some (.int .i64 o.2)):=(iy.mk_ w5 [.int .i64 o.1,.int .i64 o.2] 49 rfl).jF.c 1 _ rfl
 have FIN:Hid (∀w4 g' k',Below w5.heap.size w5 w4→w4.ownsRow ((w5.alloc (.cells #[.int .i64 o.1,.int .i64 o.2] 49)).drew).heap.size 49 2 (.slice (some ⟨g',0,none⟩) (0+1) k') (0+1) (jc ([]++[o]))→
  mW B ev pd pc pz gh mn lw hi O e X F w (⟨d.c,d.H.set k ([]++[o],r),d.P++[t]⟩,0) (.returned .nilIface) (w4.setCell ⟨gh,k*2,none⟩ (.slice (some ⟨g',0,none⟩) (0+1) k'))):=fun w4 g' k' hb hown=>by
  have hz:=KW5.out.size
  have hz2:=HB2.out.size
  have kk:Keep (gh::pd::iF (.slice qp d.P.length kp)) w (w4.setCell ⟨gh,k*2,none⟩ (.slice (some ⟨g',0,none⟩) (0+1) k')):=(KW5.out.step hb).setCell (p:=⟨gh,k*2,none⟩) (.inl sI) _
  have k4':Keep [gh] w4 (w4.setCell ⟨gh,k*2,none⟩ (.slice (some ⟨g',0,none⟩) (0+1) k')):=(Keep.refl _ _).setCell (p:=⟨gh,k*2,none⟩) (.inl sI) _
  have hg4:=hown.lt g' rfl
  have hs:((w5.alloc (.cells #[.int .i64 o.1,.int .i64 o.2] 49)).drew).heap.size=w5.heap.size+1:=sI
  rw[hs] at hg4
  obtain⟨Z,hZ⟩: ∃Z,Z=X++xd pc v A d.c.L pd gh (.slice q4 (N+1) k4):=⟨_,rfl⟩
  have zlt: ∀x∈Z,x<w5.heap.size:=fun x hx=>by
   rw[hZ] at hx
   have old: ∀y∈X,y<w5.heap.size:=fun y hy=>by have:=(HH.out.lim y hy).2;omega
   rcases aG.1 hx with q|q
   ·exact old x q
   ·rcases aG.1 q with q|q
    ·rcases aC.1 q with rfl|q
     ·exact old _ (HH.out.de.mem _ HH.out.mU)
     ·rcases aC.1 q with rfl|q
      ·exact old _ (HH.out.de.mem _ HH.out.jm)
      ·exact(iN HO5.out q).2
    ·exact old x (HH.out.x x (aA _ q))
  have hgZ:g'∉Z:=fun q=>by have:=zlt g' q;omega
  have ro:j5 Z w4 (.slice (some ⟨g',0,none⟩) (0+1) k') ([]++[o]):=nG (l:=[]++[o]) hown (fun g q=>by
   have:g=g':=by simpa[Value.ownBlock,eq_comm] using q
   subst this;exact hgZ)
  have new: ∀x∈Z,x∈X∨w.heap.size≤x:=fun x hx=>by
   rw[hZ] at hx
   rcases aG.1 hx with q|q
   ·exact .inl q
   ·rcases aG.1 q with q|q
    ·rcases aC.1 q with rfl|q
     ·exact .inl (HH.out.de.mem _ HH.out.mU)
     ·rcases aC.1 q with rfl|q
      ·exact .inl (HH.out.de.mem _ HH.out.jm)
      ·rcases HVN.out x q with t1|t1
       ·exact .inl (HH.out.de.mem x (ak _ (ak _ t1)))
       ·exact .inr om
    ·exact .inl (HH.out.x x (aA _ q))
  have carry: ∀(u:Value) (m:List Ob),j5 X w u m→j5 Z (w4.setCell ⟨gh,k*2,none⟩ (.slice (some ⟨g',0,none⟩) (0+1) k')) u m:=fun u m h0=>by
   have h1:=h0.more (Y:=Z) new
   exact h1.keep kk (fun s q=>.inl (by
    rw[hZ]
    refine av _ ?_
    rcases aC.1 q with rfl|q
    ·exact HH.out.de.mem _ HH.out.jm
    ·rcases aC.1 q with rfl|q
     ·exact HH.out.de.mem _ HH.out.mU
     ·exact HH.out.de.mem s (ak _ (ak _ q))))
  have hgm:gh∈Z:=by rw[hZ];exact av _ (HH.out.de.mem _ HH.out.jm)
  have ro':=ro.keep k4' (fun s q=>by simp at q;subst q;exact .inl hgm)
  have hl:=vH (HL5h.out.keep (Keep.of (S:=[]) hb) sI) VL3.out (.slice (some ⟨g',0,none⟩) (0+1) k')
  rw[zH] at hl
  have hdW:=(HL5d.out.keep (Keep.of (S:=[]) hb) sI).far GP (k*2) (.slice (some ⟨g',0,none⟩) (0+1) k')
  have e6:N+1=(d.P++[t]).length:=by rw[EN.out];simp
  have hrow:(w4.setCell ⟨gh,k*2,none⟩ (.slice (some ⟨g',0,none⟩) (0+1) k')).ownsRow B 79 1 (.slice q4 (N+1) k4) (N+1) (U++[.slice qt 4 ct]):=iE (iE HO5.out (Keep.of (S:=[]) hb) (fun s q=>by cases q)) k4' (fun s q r1=>by
   simp at q;subst q
   rcases HVN.out _ r1 with t1|t1
   ·exact NPO.out.2 t1
   ·have:=(HDE.out.lim _ (ak _ (aD ..))).2;omega)
  rw[hZ] at carry ro'
  obtain⟨c1,c2⟩:=HH.out.push k (p':=(.slice (some ⟨g',0,none⟩) (0+1) k',.slice qr r.length cr)) (h':=([]++[o],r)) (vp':=.slice q4 (N+1) k4) (U':=U++[.slice qt 4 ct]) (P':=d.P++[t]) hkl kk hdW (by rw[←e6];exact hrow) (by simp[HUL.out,←e6]) (fun y hy=>(HVN.out y hy).imp id (fun q=>om)) hl ro' (carry _ _ RR.out) (fun i u m hu hm=>by
   by_cases hi:i<d.P.length
   ·rw[bE hi] at hm
    rw[bE (by rw[HUL.out,EN.out];exact hi)] at hu
    exact carry u m (HH.out.de.po i u m hu hm)
   ·have hi2:=(aj.1 hm).1
    have hi3:i=d.P.length:=by simp at hi2;omega
    subst hi3
    rw[bK (aI _)] at hm
    rw[bK (by rw[HUL.out,EN.out];exact aI _)] at hu
    have e7:d.P.length-U.length=0:=by rw[HUL.out,EN.out];omega
    rw[e7] at hu
    simp at hu hm
    subst hu hm
    exact carry _ _ RT.out)
  exact⟨rfl,_,⟨_,_,_,_,_,c1,HH.out.pushF (fun y hy=>(HVN.out y hy).imp id (fun q=>om)) hF.out (fun x hx=>av _ hx)⟩,kk.mono (fun s q=>by
   rcases aC.1 q with rfl|q
   ·exact HH.out.G9 hF.out HH.out.jm
   ·rcases aC.1 q with rfl|q
    ·exact HH.out.G9 hF.out HH.out.mU
    ·exact HH.out.G9 hF.out (ak _ (ak _ q))),c2,fun x hx=>av _ hx⟩
 have EN0:Hid (0=([]:List Ob).length):=rfl
 refine iP (S:=(fun w'=>w'.cell? ⟨gh,k*2,none⟩=some (.slice none 0 0)∧w'.cell? ⟨w.heap.size,0,none⟩=some (.int .i64 o.1)∧w'.cell? ⟨w.heap.size,1,none⟩=some (.int .i64 o.2))) 9 #[false,false,false,false,false,false,false,false,false] rfl kR kR (by(try dsimp only);go_keep) (fun hHeld=> ?_)
 simp only[aV,bB]
 refine ctk (i:=0) (v:= ?_) rfl (fun _ _ _ h=>h) (Or.inl ⟨rf,?_⟩) ?_
 rotate_left
 ·(intro w hSw;(try dsimp only at hSw);go_simp<;>with_reducible rfl)
 try simp only[Act.put,pA,pZ,pS]
 refine ctk (i:=1) (v:= ?_) rfl (fun _ _ _ h=>h) (Or.inl ⟨rf,?_⟩) ?_
 rotate_left
 ·(intro w hSw;(try dsimp only at hSw);go_simp<;>with_reducible rfl)
 try simp only[Act.put,pA,pZ,pS]
 refine ctk (i:=2) (v:= ?_) rfl (fun _ _ _ h=>h) (Or.inl ⟨rf,?_⟩) ?_
 rotate_left
 ·(intro w hSw;(try dsimp only at hSw);go_simp<;>with_reducible rfl)
 try simp only[Act.put,pA,pZ,pS]
 refine ctk (i:=3) (v:= ?_) rfl (fun _ _ _ h=>h) (Or.inl ⟨rf,?_⟩) ?_
 rotate_left
 ·(intro w hSw;(try dsimp only at hSw);go_simp<;>with_reducible rfl)
 try simp only[Act.put,pA,pZ,pS]
 refine ctk (i:=4) (v:= ?_) rfl (fun _ _ _ h=>h) (Or.inl ⟨rf,?_⟩) ?_
 rotate_left
 ·(intro w hSw;(try dsimp only at hSw);go_simp<;>with_reducible rfl)
 try simp only[Act.put,pA,pZ,pS]
 refine ctk (i:=6) (v:= ?_) rfl (fun _ _ _ h=>h) (Or.inl ⟨rf,?_⟩) ?_
 rotate_left
 ·(intro w hSw;(try dsimp only at hSw);go_simp<;>with_reducible rfl)
 try simp only[Act.put,pA,pZ,pS]
 refine wpAnyH_ready (rs:=[5,7]) kR sI ?_
 refine aY (iH rfl) (fun K hK=> ?_) (aY (iH rfl) (fun K hK=> ?_) bC)
 ·refine o7 rf 149 #[.slice none 0 0] kR (.slice none 0 0) _ (CL.out _) ?_
  refine hK.out _ _ (by(try dsimp only);go_keep) (fun hHeld=> ?_)
  clear hK K
  try simp only[Act.put,pA,pZ,pS]
  refine wpAnyH_ready (rs:=[7]) kR sI ?_
  refine aY (iH rfl) (fun K hK=> ?_) bC
  go_simp
  refine hK.out _ _ (by(try dsimp only);go_keep) (fun hHeld=> ?_)
  clear hK K
  try simp only[Act.put,pA,pZ,pS]
  refine wpAnyH_ready (rs:=[8]) kR sI ?_
  refine aY (iH rfl) (fun K hK=> ?_) bC
  refine o8 (X:=X) (w:=(w5.alloc (.cells #[.int .i64 o.1,.int .i64 o.2] 49)).drew) EN0.out rf (.tmp 66) (.tmp 68) rf rf rf ((HRC.out.below iB)) om (ob:=o) (ad:=⟨w5.heap.size,0,none⟩) (by rw[addr_add];exact NB0.out) (by rw[addr_add];exact NB1.out) ?_
  intro g' k' w4 iK hb4
  have B4:Below w5.heap.size w5 w4:=(show Below w5.heap.size w5 ((w5.alloc (.cells #[.int .i64 o.1,.int .i64 o.2] 49)).drew) from iB).trans (hb4.mono sI)
  have y0:=(B4.cell (p:=⟨gh,k*2,none⟩) gl').trans g0'
  have y1:=(B4.cell (p:=⟨w.heap.size,0,none⟩) xl).trans x0
  have y2:=(B4.cell (p:=⟨w.heap.size,1,none⟩) xl).trans x1
  have yf:=(B4.frozen (p:=⟨gh,k*2,none⟩) gl').trans f0'
  have yl:gh<w4.heap.size:=aF gl' B4.size
  refine hK.out _ _ (by(try dsimp only);go_keep) (fun hHeld=> ?_)
  clear hK K
  try simp only[Act.put,pA,pZ,pS]
  refine wpAnyH_done kR ?_ _
  simp only[nR,aS,bq]
  have HO4:=ah iK;have HB4:=ah B4
  clear iK hb4 B4 hHeld
  go_wp2
  go_ret
  exact FIN.out w4 g' k' HB4.out HO4.out
 ·go_simp
  refine hK.out _ _ (by(try dsimp only);go_keep) (fun hHeld=> ?_)
  clear hK K
  try simp only[Act.put,pA,pZ,pS]
  refine wpAnyH_ready (rs:=[5]) kR sI ?_
  refine aY (iH rfl) (fun K hK=> ?_) bC
  refine o7 rf 149 #[.slice none 0 0] kR (.slice none 0 0) _ (CL.out _) ?_
  refine hK.out _ _ (by(try dsimp only);go_keep) (fun hHeld=> ?_)
  clear hK K
  try simp only[Act.put,pA,pZ,pS]
  refine wpAnyH_ready (rs:=[8]) kR sI ?_
  refine aY (iH rfl) (fun K hK=> ?_) bC
  refine o8 (X:=X) (w:=(w5.alloc (.cells #[.int .i64 o.1,.int .i64 o.2] 49)).drew) EN0.out rf (.tmp 66) (.tmp 68) rf rf rf ((HRC.out.below iB)) om (ob:=o) (ad:=⟨w5.heap.size,0,none⟩) (by rw[addr_add];exact NB0.out) (by rw[addr_add];exact NB1.out) ?_
  intro g' k' w4 iK hb4
  have B4:Below w5.heap.size w5 w4:=(show Below w5.heap.size w5 ((w5.alloc (.cells #[.int .i64 o.1,.int .i64 o.2] 49)).drew) from iB).trans (hb4.mono sI)
  have y0:=(B4.cell (p:=⟨gh,k*2,none⟩) gl').trans g0'
  have y1:=(B4.cell (p:=⟨w.heap.size,0,none⟩) xl).trans x0
  have y2:=(B4.cell (p:=⟨w.heap.size,1,none⟩) xl).trans x1
  have yf:=(B4.frozen (p:=⟨gh,k*2,none⟩) gl').trans f0'
  have yl:gh<w4.heap.size:=aF gl' B4.size
  refine hK.out _ _ (by(try dsimp only);go_keep) (fun hHeld=> ?_)
  clear hK K
  try simp only[Act.put,pA,pZ,pS]
  refine wpAnyH_done kR ?_ _
  simp only[nR,aS,bq]
  have HO4:=ah iK;have HB4:=ah B4
  clear iK hb4 B4 hHeld
  go_wp2
  go_ret
  exact FIN.out w4 g' k' HB4.out HO4.out
end
end
section
open Go.RowKit Go.Maps
attribute [local go_sem ↓] aW aX
section
variable {X Y S F:List Nat} {B:Nat} {ev:Nat→Addr} {w w':World} {pd pc pz gh e:Nat} {mn lw hi:Int} {O:List (List Int)} {v vp vp':Value} {A:SA} {V:HV} {U U':List Value} {d:De} {c:Ca} {P':List (List Ob)}
theorem Gl (k:Int) (o:Ob) (hE:tJ B ev w) (h:CD B w X pd pc pz gh mn lw hi O e v A V vp U d) (hF:Hid (∀f∈F,f∈X∧f∉xd pc v A d.c.L pd gh vp)) (hI:jY e d) (o1: -9223372036854775808≤o.2) (o2:o.2≤9223372036854775807):
 Calls Tryz.prog 39 #[.pointer (some ⟨pd,0,none⟩),.int .i64 k,.agg #[.int .i64 o.1,.int .i64 o.2]] w (mW B ev pd pc pz gh mn lw hi O e X F w (iU e d k o)):=by
 cases hh:jI d k with
 |none=>exact Gj k o hE h hF hh
 |some g=>
  obtain⟨k0,h1,h2,h3⟩:=jP hh
  obtain⟨kn,hkn⟩: ∃kn,kn=k.toNat:=⟨_,rfl⟩
  rw[←hkn] at h1 h3
  subst h3
  have h4:=(hI.h4 g (aB h1))
  obtain⟨g1,g2⟩:=g
  simp only at h4
  cases ho:vB e d o with
  |false=>exact AO kn o hE h hF hI o1 o2 h1 ho
  |true=>
   by_cases q:g1.length=4
   ·cases g2 with
    |nil=>exact dgive_2 kn o h hF hI o1 o2 h1 q ho
    |cons a r=>exact dgive_3 kn o hE.size h hF hI o1 o2 h1 q sI ho
   ·exact dgive_1 kn o h hF hI o1 o2 h1 om ho
def lG (H:List Hd):Nat:=(H.map fun h=>h.1.length+h.2.length).sum
theorem vK (H:List Hd):lG H=(jf H).length:=by
 unfold lG jf
 rw[List.length_flatMap]
 simp
theorem sK {H:List Hd} {i:Nat} {h:Hd} (hs:H[i]?=some h):lG (H.take (i+1))=lG (H.take i)+(h.1.length+h.2.length):=by
 rw[bH,hs]
 unfold lG
 simp
theorem Cj (h:CD B w X pd pc pz gh mn lw hi O e v A V vp U d) (hI:jY e d):
 Calls Tryz.prog 101 #[.pointer (some ⟨pd,0,none⟩)] w fun r w'=>r= .returned (.tuple #[.int .i64 (lG d.H),.int .i64 ((d.P.length*4:Nat):Int)])∧Below w.heap.size w w':=by
 have c1:=h.de.d.c 1 _ rfl;have cl:=h.de.d.lt
 have HH:=ah h;have HI:=ah hI
 have hH4:=hI.hl
 have ALL:Hid (d.H.take d.H.length=d.H):=by show _=_;simp
 obtain⟨n,hn⟩: ∃n,n=d.H.length:=⟨_,rfl⟩
 have EN:=ah hn
 rw[←hn] at c1 hH4 ALL
 have pl:Hid (d.P.length≤65536):=by
  show d.P.length≤65536
  have hh:=(ji hI).1
  have h2:=jy hI.c
  omega
 have BD:Hid (∀i,i≤n→lG (d.H.take i)≤8*i):=by
  intro i
  induction i with
  |zero=>intro _;simp[lG]
  |succ i ih=>
   intro hi
   obtain⟨g,hg⟩: ∃g,d.H[i]?=some g:=⟨d.H[i]' om,au _⟩
   rw[sK hg]
   have:=ih om
   have h4:=hI.h4 g (aB hg)
   omega
 clear h hI hn
 go_enter Tryz.func101,Tryz.ntmps101
 go_wp2_with fail
 go_loopw [2,11] (fun tv iv wr=>∃i:Nat,i≤n∧iv= .int .i64 i∧tv= .int .i64 (lG (d.H.take i))∧Below w.heap.size w wr) (fun _ iv _=>n-(intOf iv).toNat)
 case atStart=>exact⟨0,om,by go_num,by simp[lG],aJ _ _⟩
 case round=>
  obtain⟨i,hile,rfl,rfl,hbel⟩:=hrel
  have zr:=hbel.size
  by_cases hin:i<n
  ·obtain⟨g,hg⟩: ∃g,d.H[i]?=some g:=⟨d.H[i]'(by rw[←EN.out];exact hin),au _⟩
   obtain⟨⟨pa,pb⟩,hp,r1,r2,g0,g1,_,_,gl⟩:=(HH.out.below hbel).hand hg
   obtain⟨qa,ca,e1,_⟩:=r1.isSlice
   obtain⟨qb,cb,e2,_⟩:=r2.isSlice
   simp only at e1 e2 g0 g1
   subst e1 e2
   have l4:=HI.out.h4 g (aB hg)
   have SN:=ah (sK hg)
   have bd:=BD.out i om
   have j1:(i:Int)<(n:Int):=om
   generalize g.1.length=na at*
   generalize g.2.length=nb at*
   generalize lG (d.H.take i)=t at*
   clear r1 r2 hp hg
   go_wp2
   go_round
   case rel=>exact⟨i+1,om,by go_num,by rw[SN.out];go_num,hbel.trans iB⟩
   case measure=>simp[intOf];omega
  ·obtain rfl:i=n:=by omega
   rw[ALL.out]
   obtain⟨q,k,evp,k1,k2,_⟩:=(HH.out.below hbel).de.pile
   have c2:=(HH.out.below hbel).de.d.c 2 _ rfl;have cl2:=(HH.out.below hbel).de.d.lt
   rw[evp] at c2
   have pl':=pl.out
   obtain⟨np,hnp⟩: ∃np,np=d.P.length:=⟨_,rfl⟩
   have HNP:=ah hnp
   rw[←hnp] at c2 pl'
   clear hnp
   have hw1:IntKind.i64.wrap ((np:Int)*4)=(np:Int)*4:=aP _ om
   clear evp k1 k2
   go_wp2_with fail
   go_quiet (fail)
   go_wp2
   go_ret2
   exact⟨by rw[←HNP.out];simp,hbel.trans iB⟩
end
end
end Go.Proofs.YtdcbhlcbiokbeaaGreatDoor
