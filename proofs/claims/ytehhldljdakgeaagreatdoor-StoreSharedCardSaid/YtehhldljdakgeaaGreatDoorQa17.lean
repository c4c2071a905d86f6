/- Lemmas and contracts for the claim's last text: DGive, DGiveA. -/
import Derived.Test.YtehhldljdakgeaaGreatDoorQa01
import Derived.Test.YtehhldljdakgeaaGreatDoorQa16
set_option linter.unusedSimpArgs false
set_option linter.unusedVariables false
set_option maxHeartbeats 16000000
set_option maxRecDepth 100000
namespace Go.Proofs.YtehhldljdakgeaaGreatDoor
open Go.RowKit Go.Maps
attribute [local go_sem ↓] aJ aK
structure GR (B:Nat) (ev:Nat→Addr) (w:World):Prop where
 z:yL B ev w
 l9:5<B
 c9:w.cell? ⟨5,0,none⟩=some (jW ev 9)
theorem GR.below {B:Nat} {ev:Nat→Addr} {w w':World} (h:GR B ev w) (hb:Below B w w'):GR B ev w':=⟨h.z.below hb,h.l9,by rw[hb.cell (p:=⟨5,0,none⟩) h.l9];exact h.c9⟩
theorem GR.size {B:Nat} {ev:Nat→Addr} {w:World} (h:GR B ev w):B≤w.heap.size:=h.z.size
theorem GR.go {B:Nat} {ev:Nat→Addr} {w w':World} (h:GR B ev w) (hb:Below w.heap.size w w'):GR B ev w':=h.below (hb.mono h.size)
theorem pY.s {B:Nat} {ev:Nat→Addr} {w:World} (h:pY B ev w):GR B ev w:=⟨h.z,h.glob 9 (by decide) (by decide),h.cell 9 (by decide) (by decide)⟩
section
variable {X Y S:List Nat} {B:Nat} {ev:Nat→Addr} {w w':World} {pd pc pz gh e:Nat} {mn lw hi:Int} {O:List (List Int)} {v vp vp':Value} {A:SA} {V:HV} {U U':List Value} {d:De} {c:Ca} {P':List (List Ob)}
theorem zh (q:Option Addr) (n cap:Nat) (w:World) (hq:q=none→n=0) (hn:n≤cap):
 Calls Tryz.prog 67 #[.slice q n cap] w fun e w'=>e= .returned (.slice q n n)∧w'=w:=by
 cases q with
 |none=>
  have:=hq rfl;subst this;by_cases hc:cap=0
  ·subst hc
   go_enter Tryz.func67,Tryz.ntmps67;go_wp2;go_ret;exact⟨rfl,rfl⟩
  ·go_enter Tryz.func67,Tryz.ntmps67
   go_wp2;go_ret;exact⟨rfl,rfl⟩
 |some a=>
  obtain⟨g,o,p⟩:=a;have h1:(n:Int)≤(cap:Int):=om;go_enter Tryz.func67,Tryz.ntmps67;go_wp2;go_ret;exact⟨rfl,rfl⟩
theorem run_appO {q:Option Addr} {l:List Ob} (h:lG X w (.slice q l.length l.length) l) (hl:l.length≤65536) (ty:TypeId) {a:Addr} {cp:Nat} {o:Ob} (h0:w.cell? (a.add 0)=some (.int .i64 o.1)) (h1:w.cell? (a.add 1)=some (.int .i64 o.2)):
 ∃g k w',(Builtin.append_ #[38,38] ty #[.slice q l.length l.length,.slice (some a) 1 cp]).run Tryz.prog w= .ok (.slice (some ⟨g,0,none⟩) (l.length+1) k) w'∧w'.ownsRow w.heap.size 40 2 (.slice (some ⟨g,0,none⟩) (l.length+1) k) (l.length+1) (kG (l++[o]))∧Below w.heap.size w w':=by
 obtain⟨i0,hi,hz0,hz1,hz2⟩:=info_parts (P:=Tryz.prog) (e:=40) (z:=.agg #[.int .i64 0,.int .i64 0]) (size:=2) (bytes:=16) kR;have hms: ∀(j:Nat) (u:Value),[Value.int .i64 o.1,.int .i64 o.2][j]?=some u→w.cell? (a.add j)=some u:=fun j u hj=>by
  cases j with
  |zero=>simp at hj;subst hj;exact h0
  |succ j=>
   cases j with
   |zero=>simp at hj;subst hj;exact h1
   |succ j=>simp at hj
 have fin: ∀v' w',w'.ownsRow w.heap.size 40 2 v' (l.length+1) (kG (l++[o]))→w.grownBy w' none→∃g k,v'= .slice (some ⟨g,0,none⟩) (l.length+1) k:=fun v' w' ho _=>by
  rcases ho.2 with⟨rfl,h3⟩|⟨g,cap,cur,rfl,_⟩
  ·exact absurd h3 om
  ·exact⟨g,cap,rfl⟩
 have elen:(kG l).length=l.length*2:=by rw[kV];omega
 cases q with
 |none=>
  obtain⟨p',cap',e1,e2,e3,e4⟩:=h;have hl0:l=[]:=by
   have e5:=(eH e1).1;clear e1 fin elen hms;cases l with
   |nil=>rfl
   |cons b r=>
    obtain⟨g,off,t,_⟩:=e4 0 b.1 b.2 rfl;rw[←e5] at t;cases t
  subst hl0;obtain⟨v',w',hrun,h2,h3,_⟩:=run_append_own_at (P:=Tryz.prog) w w.heap.size 38 ty 40 i0 _ 2 16 Tryz.underlying38 hi hz0 hz1 hz2 rfl om (.slice none 0 0) 0 [] (aT _ _ _ _) a 1 cp [.int .i64 o.1,.int .i64 o.2] sI hms (by intro u hu;simp at hu;rcases hu with rfl|rfl<;>rfl) (by unfold maxLen;omega) om (aH _);have hg:w.grownBy w' none:=h3;obtain⟨g,k,rfl⟩:=fin v' w' (by simpa[kG] using h2) hg;exact⟨g,k,w',by simpa using hrun,by simpa[kG] using h2,(aO _ _).grown hg (aH _) (fun k q=>by cases q)⟩
 |some b=>
  have holds: ∀(j:Nat) (u:Value),(kG l)[j]?=some u→w.cell? (b.add j)=some u:=fun j u hj=>by
   have hjl:=(au.1 hj).1;rw[elen] at hjl;obtain⟨y,hy⟩: ∃y,l[j / 2]?=some y:=⟨l[j / 2]' om,aA _⟩;obtain⟨g,off,t,_,_,c0,c1⟩:=h.at hy;obtain rfl:=aI t;obtain⟨e1,e2⟩:=u6 l (j / 2) y.1 y.2 hy;rw[addr_add];have:j=j / 2*2∨j=j / 2*2+1:=om;rcases this with q|q
   ·rw[q] at hj
    rw[e1] at hj;obtain rfl:=aI hj;rw[q];exact c0
   ·rw[q] at hj
    rw[e2] at hj;obtain rfl:=aI hj;rw[q];exact c1
  obtain⟨v',w',hrun,h2,h3⟩:=run_append_arg_grows (P:=Tryz.prog) w 38 ty 40 i0 _ 2 16 Tryz.underlying38 hi hz0 hz1 hz2 rfl om b l.length l.length (kG l) elen holds a 1 cp [.int .i64 o.1,.int .i64 o.2] sI hms om (by unfold maxLen;omega) om;rw[←l8] at h2;obtain⟨g,k,rfl⟩:=fin v' w' h2 h3;exact⟨g,k,w',hrun,h2,(aO _ _).grown h3 (aH _) (fun k q=>by cases q)⟩
theorem qJ {P:Program} {ops:Array Oper} {o:Oper} {a:Act} {w:World} {K:Act→World→Prop} {Q:Exit→Act→World→Prop} {F:Prop} (hg:o.guard=none)
 (f:FuncId) (args:Array Value) (hrun:(execOp a.eval o).run P w= .ok (.enter f args) w) (v:Value) (w':World) (hc:Calls P f args w fun e w''=>e= .returned v∧w''=w') (hK:K (a.put o.dst v) w'):
 if Region.wanted o (yielded ops a.tmps)=true then Oper.wp P o a w K Q else F:=by
 have hw:Region.wanted o (yielded ops a.tmps)=true:=by simp[Region.wanted,hg]
 rw[if_pos hw];unfold Oper.wp;rw[hrun,Oper.upon_enter];refine hc.mono fun e w'' hh=> ?_
 obtain⟨rfl,rfl⟩:=hh;exact hK
theorem Uo {ops:Array Oper} {o:Oper} {a:Act} {K:Act→World→Prop} {Q:Exit→Act→World→Prop} {F:Prop} {q:Option Addr} {l:List Ob} (hgd:o.guard=none) (s x:Operand)
 (hop:o.op= .call {callee:=.builtin .append,args:=#[s,x],argTypes:=#[38,38]}) (hs:a.eval s= .slice q l.length l.length) {ad:Addr} {cp:Nat} (hx:a.eval x= .slice (some ad) 1 cp)
 (h:lG X w (.slice q l.length l.length) l) (hl:l.length≤65536) {ob:Ob} (h0:w.cell? (ad.add 0)=some (.int .i64 ob.1)) (h1:w.cell? (ad.add 1)=some (.int .i64 ob.2))
 (hK: ∀g k w',w'.ownsRow w.heap.size 40 2 (.slice (some ⟨g,0,none⟩) (l.length+1) k) (l.length+1) (kG (l++[ob]))→Below w.heap.size w w'→K (a.put o.dst (.slice (some ⟨g,0,none⟩) (l.length+1) k)) w'):
 if Region.wanted o (yielded ops a.tmps)=true then Oper.wp Tryz.prog o a w K Q else F:=by
 have hw:Region.wanted o (yielded ops a.tmps)=true:=by simp[Region.wanted,hgd]
 rw[if_pos hw];obtain⟨g,k,w',hrun,h2,h3⟩:=run_appO h hl o.type h0 h1 (cp:=cp);unfold Oper.wp execOp;simp only[hop,resolve,invoke,builtin,fA,fI,dS,dZ,bP,dW,hs,hx,hrun];exact hK g k w' h2 h3
theorem qK {ops:Array Oper} {o:Oper} {a:Act} {K:Act→World→Prop} {Q:Exit→Act→World→Prop} {F:Prop} {q:Option Addr} {n:Nat} {l:List Ob} (hn:n=l.length) (hgd:o.guard=none) (s x:Operand)
 (hop:o.op= .call {callee:=.builtin .append,args:=#[s,x],argTypes:=#[38,38]}) (hs:a.eval s= .slice q n n) {ad:Addr} {cp:Nat} (hx:a.eval x= .slice (some ad) 1 cp)
 (h:lG X w (.slice q l.length l.length) l) (hl:n≤65536) {ob:Ob} (h0:w.cell? (ad.add 0)=some (.int .i64 ob.1)) (h1:w.cell? (ad.add 1)=some (.int .i64 ob.2))
 (hK: ∀g k w',w'.ownsRow w.heap.size 40 2 (.slice (some ⟨g,0,none⟩) (n+1) k) (n+1) (kG (l++[ob]))→Below w.heap.size w w'→K (a.put o.dst (.slice (some ⟨g,0,none⟩) (n+1) k)) w'):
 if Region.wanted o (yielded ops a.tmps)=true then Oper.wp Tryz.prog o a w K Q else F:=by
 subst hn;exact Uo hgd s x hop hs hx h hl h0 h1 hK
end
theorem lG.clip {X:List Nat} {w:World} {q:Option Addr} {n c:Nat} {l:List Ob} (h:lG X w (.slice q n c) l):lG X w (.slice q l.length l.length) l∧n=l.length∧n≤c∧(q=none→n=0):=by
 obtain⟨p,cap,h1,h2,h3,h4⟩:=h;obtain⟨e1,e2,e3⟩:=eH h1;subst e1 e2 e3;refine⟨⟨q,l.length,rfl,aH _,om,h4⟩,rfl,h2,fun e=> ?_⟩;cases l with
 |nil=>rfl
 |cons b r=>
  obtain⟨g,off,t,_⟩:=h4 0 b.1 b.2 rfl;rw[e] at t;cases t
section
variable {X Y S F:List Nat} {B:Nat} {ev:Nat→Addr} {w w':World} {pd pc pz gh e:Nat} {mn lw hi:Int} {O:List (List Int)} {v vp vp':Value} {A:SA} {V:HV} {U U':List Value} {d:De} {c:Ca} {P':List (List Ob)}
def sj (B:Nat) (ev:Nat→Addr) (pd pc pz gh:Nat) (mn lw hi:Int) (O:List (List Int)) (e:Nat) (X F:List Nat) (w:World) (r:De×Nat) (en:Ending) (w':World):Prop:=
 en= .returned (jW ev r.2)∧∃X',CDx B w' X' F pd pc pz gh mn lw hi O e r.1∧Keep (off X F) w w'∧(∀x∈X',x∈X∨w.heap.size≤x)∧∀x∈X,x∈X'
theorem CD.Ol (h:CD B w X pd pc pz gh mn lw hi O e v A V vp U d) (k:Nat) {p':Value×Value} {h':Hd} (hk:k<d.H.length) (kk:Keep [gh] w w') (r1:lG X w' p'.1 h'.1) (r2:lG X w' p'.2 h'.2) (hg:jD w' gh (l6 (V.set k p'))):
 CD B w' X pd pc pz gh mn lw hi O e v A (V.set k p') vp U ⟨d.c,d.H.set k h',d.P⟩:=by
 have q:=h.wN k (p':=(.slice none 0 0,.slice none 0 0)) (h':=([],[])) (w':=w) hk (lG.nil X w) (lG.nil X w) (Keep.refl _ _);obtain⟨n0,nn⟩:=aS.1 h.de.nd;obtain⟨n1,n2⟩:=aS.1 nn;have hpg:pd≠gh:=fun q=>n0 (q▸aG ..)
 have fg:=h.far gh h.mJ;have hs: ∀s∈[gh],s∈X∨w.heap.size≤s:=fun s q=>by simp at q;subst q;exact .inl fg.1
 refine⟨h.x,h.limK kk,h.cs.z.keep kk (fun s q=>by simp at q;subst q;exact .inl ⟨fg.1,fg.2.2⟩) |> fun z=>⟨z,h.cs.ch.keep kk (fun s q=>by simp at q;subst q;exact fg.2.1),h.cs.ne,h.cs.l0⟩,?_,h.ne⟩;refine⟨?_,hg,by simp[h.de.hl],fun i p g hp hg'=> ?_,jE h.de.row kk (fun s q=>by simp at q;subst q;exact n1),h.de.ul,fun i u m hu hm=>(h.de.po i u m hu hm).keep kk hs,h.de.mem,h.de.nd,fun y hy=>⟨(h.de.lim y hy).1,aC (h.de.lim y hy).2 kk.size⟩⟩
 ·rw[bZ]
  exact h.de.d.keep kk (by simpa using hpg)
 ·by_cases q:k=i
  ·subst q
   rw[aY (by rw[h.de.hl];exact hk)] at hp;rw[aY hk] at hg';obtain rfl:=aI hp;obtain rfl:=aI hg';exact⟨r1,r2⟩
  ·rw[bL q] at hp hg'
   exact⟨(h.de.ho i p g hp hg').1.keep kk hs,(h.de.ho i p g hp hg').2.keep kk hs⟩
theorem Al {k:Nat} {g:Hd} {o:Ob} (hk:d.H[k]?=some g) (ho:za e d o=true):kK e d k o=(⟨d.c,d.H.set k ((oV g d.P).1.1++[o],(oV g d.P).1.2),(oV g d.P).2⟩,0):=by
 unfold kK;rw[nS hk];simp only[ho,if_true,bQ]
theorem Il {k:Nat} {g:Hd} {o:Ob} (hk:d.H[k]?=some g) (ho:za e d o=false):kK e d k o=(d,9):=by
 unfold kK;rw[nS hk];simp only[ho];rfl
theorem Uq {k:Int} {o:Ob} (hk:nY d k=none):kK e d k o=(d,2):=by unfold kK;rw[hk]
theorem Ur (k:Int) (o:Ob) (hE:GR B ev w) (h:CD B w X pd pc pz gh mn lw hi O e v A V vp U d) (hF:Hid (∀f∈F,f∈X∧f∉xd pc v A d.c.L pd gh vp)) (hk:nY d k=none):
 Calls Tryz.prog 50 #[.pointer (some ⟨pd,0,none⟩),.int .i64 k,.agg #[.int .i64 o.1,.int .i64 o.2]] w (sj B ev pd pc pz gh mn lw hi O e X F w (kK e d k o)):=by
 rw[Uq hk];have b1:Below w.heap.size w (w.alloc (.cells #[.int .i64 o.1,.int .i64 o.2] 40)):=jK;have NO:=ah (FJ (hE.z.go b1).c (h.below b1) k (vQ hk));have e1:jW ev 2= .iface 336 (.pointer (some (ev 2))):=rfl;have FIN:Hid (∀W,Below w.heap.size w W→sj B ev pd pc pz gh mn lw hi O e X F w (d,2) (.returned (.iface 336 (.pointer (some (ev 2))))) W):=fun W b=>⟨rfl,X,⟨_,_,_,_,_,h.below b,hF.out⟩,Keep.of b,fun _ q=>.inl q,fun _ q=>q⟩
 have HB1:=ah b1;rw[e1] at NO;clear h hk hE e1 b1;go_enter Tryz.func50,jy;go_wp2_with fail;refine NO.out.mono ?_;rintro r w1 ⟨rfl,hb1⟩;go_wp2;go_ret;exact FIN.out _ (HB1.out.trans (hb1.mono sI))
theorem Im (k:Nat) (o:Ob) (hE:GR B ev w) (h:CD B w X pd pc pz gh mn lw hi O e v A V vp U d) (hF:Hid (∀f∈F,f∈X∧f∉xd pc v A d.c.L pd gh vp)) (hI:oH e d) (o1: -9223372036854775808≤o.2) (o2:o.2≤9223372036854775807) {g:Hd} (hk:d.H[k]?=some g) (ho:za e d o=false):
 Calls Tryz.prog 50 #[.pointer (some ⟨pd,0,none⟩),.int .i64 k,.agg #[.int .i64 o.1,.int .i64 o.2]] w (sj B ev pd pc pz gh mn lw hi O e X F w (kK e d k o)):=by
 rw[Il hk ho];have hkl:=(au.1 hk).1;have b1:Below w.heap.size w (w.alloc (.cells #[.int .i64 o.1,.int .i64 o.2] 40)):=jK;have HL:=ah (show jD (w.alloc (.cells #[.int .i64 o.1,.int .i64 o.2] 40)) w.heap.size [.int .i64 o.1,.int .i64 o.2] from jD.mk_ w [.int .i64 o.1,.int .i64 o.2] 40 rfl);obtain⟨W1,hW1⟩:=eY (w.alloc (.cells #[.int .i64 o.1,.int .i64 o.2] 40));rw[←hW1] at b1 HL;have h1:=h.below b1;have HD:=ah (sQ h1 k hkl);have OU:=E8 o h1 hI o1 o2;rw[ho] at OU;have HOU:=ah OU;have m0:=HL.out.gC 0;have m1:=HL.out.gC 1;have ml:=HL.out.lt;have e1:jW ev 9= .iface 336 (.pointer (some (ev 9))):=rfl;have FIN:Hid (∀W,Below w.heap.size w W→sj B ev pd pc pz gh mn lw hi O e X F w (d,9) (.returned (.iface 336 (.pointer (some (ev 9))))) W):=fun W b=>⟨rfl,X,⟨_,_,_,_,_,h.below b,hF.out⟩,Keep.of b,fun _ q=>.inl q,fun _ q=>q⟩
 have HB1:=ah b1;have HE:=ah hE;have E1:=ah e1;clear h hk hE e1 b1 h1 OU hI;go_enter Tryz.func50,jy;go_wp2_with fail;rw[←hW1];clear hW1;refine HD.out.mono ?_;rintro r w1 ⟨rfl,rfl⟩;go_wp2_with fail;refine HOU.out.mono ?_;rintro r w2 ⟨rfl,hb2⟩;have B2:=HB1.out.trans (hb2.mono HB1.out.size);have gs:w2.cell? ⟨5,0,none⟩=some (jW ev 9):=(HE.out.go B2).c9;have gsl:5<w2.heap.size:=aC HE.out.l9 (bW HE.out.size B2.size);rw[E1.out] at gs;go_wp2;go_ret;exact FIN.out _ jK
theorem dgive_1 (k:Nat) (o:Ob) (h:CD B w X pd pc pz gh mn lw hi O e v A V vp U d) (hF:Hid (∀f∈F,f∈X∧f∉xd pc v A d.c.L pd gh vp)) (hI:oH e d) (o1: -9223372036854775808≤o.2) (o2:o.2≤9223372036854775807) {l r:List Ob} (hk:d.H[k]?=some (l,r)) (hl3:l.length≤3) (ho:za e d o=true):
 Calls Tryz.prog 50 #[.pointer (some ⟨pd,0,none⟩),.int .i64 k,.agg #[.int .i64 o.1,.int .i64 o.2]] w (sj B ev pd pc pz gh mn lw hi O e X F w (kK e d k o)):=by
 have hkl:=(au.1 hk).1;have fd:oV (l,r) d.P=((l,r),d.P):=by unfold oV;rw[if_neg (by show¬l.length=4;omega)]
 rw[Al hk ho,fd];have b1:Below w.heap.size w (w.alloc (.cells #[.int .i64 o.1,.int .i64 o.2] 40)):=jK;have HL:=ah (show jD (w.alloc (.cells #[.int .i64 o.1,.int .i64 o.2] 40)) w.heap.size [.int .i64 o.1,.int .i64 o.2] from jD.mk_ w [.int .i64 o.1,.int .i64 o.2] 40 rfl);obtain⟨W1,hW1⟩:=eY (w.alloc (.cells #[.int .i64 o.1,.int .i64 o.2] 40));rw[←hW1] at b1 HL;have h1:=h.below b1;have HD:=ah (sQ h1 k hkl);have OU:=E8 o h1 hI o1 o2;rw[ho] at OU;have HOU:=ah OU;have m0:=HL.out.gC 0;have m1:=HL.out.gC 1;have ml:=HL.out.lt;have HB1:=ah b1;have HH:=ah h;have rg: ¬(w.heap.size=gh):=fun q=>by have:=(h.de.lim gh h.mJ).2;omega
 have VL:Hid (k<V.length):=by show k<V.length;rw[h.de.hl];exact hkl
 clear h b1 h1 OU hI ho;go_enter Tryz.func50,jy;go_wp2_with fail;rw[←hW1];clear hW1;refine HD.out.mono ?_;rintro r' w1 ⟨rfl,rfl⟩;go_wp2_with fail;refine HOU.out.mono ?_;rintro r' w2 ⟨rfl,hb2⟩;have B2:=HB1.out.trans (hb2.mono HB1.out.size);obtain⟨p,hp,r1,r2,g0,g1,f0,f1,gl⟩:=(HH.out.below B2).hand hk;obtain⟨⟨pa,pb⟩,rfl⟩: ∃q,q=p:=⟨_,rfl⟩;obtain⟨qa,ca,e1,_,_⟩:=r1.isSlice;simp only at e1 g0 g1 hp;subst e1;obtain⟨rc,_,nc,qn⟩:=lG.clip (by simpa using r1);have HRC:=ah rc;have HR2:=ah r2;have HP:=ah hp;have HLB:=ah (HL.out.go hb2);have x0:=HLB.out.gC 0;have x1:=HLB.out.gC 1;have xl:=HLB.out.lt;have HB2:=ah B2;obtain⟨n,hn⟩:=eY l.length;have EN:=ah hn;replace g0:w2.cell? ⟨gh,k*2,none⟩=some (.slice qa n ca):=by rw[hn];exact g0
 rw[←hn] at hl3 nc qn;have d1:decide (n=4)=false:=decide_eq_false om;have d1':decide ((n:Int)=4)=false:=decide_eq_false om;have CL:Hid (∀W,Calls Tryz.prog 67 #[.slice qa n ca] W fun e w'=>e= .returned (.slice qa n n)∧w'=W):=fun W=>zh qa n ca W qn nc
 have NB0:Hid ((w2.alloc (.cells #[.int .i64 o.1,.int .i64 o.2] 40)).drew.cell? ⟨w2.heap.size,0+0,none⟩=some (.int .i64 o.1)):=(jD.mk_ w2 [.int .i64 o.1,.int .i64 o.2] 40 rfl).lT.gC 0;have NB1:Hid ((w2.alloc (.cells #[.int .i64 o.1,.int .i64 o.2] 40)).drew.cell? ⟨w2.heap.size,0+1,none⟩=some (.int .i64 o.2)):=(jD.mk_ w2 [.int .i64 o.1,.int .i64 o.2] 40 rfl).lT.gC 1;have HLH:=ah ((HH.out.below B2).de.hs);have FIN:Hid (∀w4 g' k',Below w2.heap.size w2 w4→w4.ownsRow ((w2.alloc (.cells #[.int .i64 o.1,.int .i64 o.2] 40)).drew).heap.size 40 2 (.slice (some ⟨g',0,none⟩) (n+1) k') (n+1) (kG (l++[o]))→
  sj B ev pd pc pz gh mn lw hi O e X F w (⟨d.c,d.H.set k (l++[o],r),d.P⟩,0) (.returned .nilIface) (w4.setCell ⟨gh,k*2,none⟩ (.slice (some ⟨g',0,none⟩) (n+1) k'))):=fun w4 g' k' hb hown=>by
  have hz:=B2.size;have kk:Keep [gh] w (w4.setCell ⟨gh,k*2,none⟩ (.slice (some ⟨g',0,none⟩) (n+1) k')):=(Keep.of (B2.trans (hb.mono hz))).setCell (p:=⟨gh,k*2,none⟩) (.inl sI) _;have hg4:=hown.lt g' rfl;have hs:((w2.alloc (.cells #[.int .i64 o.1,.int .i64 o.2] 40)).drew).heap.size=w2.heap.size+1:=sI;rw[hs] at hg4;have hgX:g'∉X:=fun q=>by have:=(HH.out.lim g' q).2;omega
  have k4:Keep [gh] w4 (w4.setCell ⟨gh,k*2,none⟩ (.slice (some ⟨g',0,none⟩) (n+1) k')):=(Keep.refl _ _).setCell (p:=⟨gh,k*2,none⟩) (.inl sI) _;have hsx: ∀s∈[gh],s∈X∨w4.heap.size≤s:=fun s q=>by simp at q;subst q;exact .inl (HH.out.de.mem s HH.out.mJ)
  have en:n+1=(l++[o]).length:=by rw[hn];simp
  have ro:lG X w4 (.slice (some ⟨g',0,none⟩) (n+1) k') (l++[o]):=by
   rw[en] at hown ⊢;exact pO hown (fun g q=>by
    have:g=g':=by simpa[Value.ownBlock,eq_comm] using q
    subst this;exact hgX)
  have hl:=BG (HLH.out.keep (Keep.of (S:=[]) hb) sI) HP.out (.slice (some ⟨g',0,none⟩) (n+1) k');refine⟨rfl,X,⟨_,_,_,_,_,HH.out.Ol k (p':=(.slice (some ⟨g',0,none⟩) (n+1) k',pb)) (h':=(l++[o],r)) hkl kk (ro.keep k4 hsx) ((HR2.out.below hb).keep k4 hsx) hl,hF.out⟩,kk.mono (fun s q=>by simp at q;subst q;exact HH.out.offy hF.out HH.out.mJ),fun _ q=>.inl q,fun _ q=>q⟩
 clear r1 r2 rc hp hn B2 HD HOU m0 m1 ml;go_wp2_with fail;refine jN (S:=(fun w'=>w'.cell? ⟨gh,k*2,none⟩=some (.slice qa n ca)∧w'.cell? ⟨w.heap.size,0,none⟩=some (.int .i64 o.1)∧w'.cell? ⟨w.heap.size,1,none⟩=some (.int .i64 o.2))) 9 #[false,false,false,false,false,false,false,false,false] rfl kR kR (by(try dsimp only);go_keep) (fun hHeld=> ?_);simp only[aQ,aW];refine tk 0 ?_;try simp only[Act.put,pA,pZ,pS]
 refine tk 1 ?_;try simp only[Act.put,pA,pZ,pS]
 refine tk 2 ?_;try simp only[Act.put,pA,pZ,pS]
 refine tk 3 ?_;try simp only[Act.put,pA,pZ,pS]
 refine tk 4 ?_;try simp only[Act.put,pA,pZ,pS]
 refine tk 6 ?_;try simp only[Act.put,pA,pZ,pS]
 refine wpAnyH_ready (rs:=[5,7]) kR sI ?_;refine aR (jH rfl) (fun K hK=> ?_) (aR (jH rfl) (fun K hK=> ?_) aX)
 ·refine qJ rf 67 #[.slice qa n ca] kR (.slice qa n n) _ (CL.out _) ?_
  refine hK.out _ _ (by(try dsimp only);go_keep) (fun hHeld=> ?_);clear hK K;try simp only[Act.put,pA,pZ,pS]
  refine wpAnyH_ready (rs:=[7]) kR sI ?_;refine aR (jH rfl) (fun K hK=> ?_) aX;go_simp
  refine hK.out _ _ (by(try dsimp only);go_keep) (fun hHeld=> ?_);clear hK K;try simp only[Act.put,pA,pZ,pS]
  refine wpAnyH_ready (rs:=[8]) kR sI ?_;refine aR (jH rfl) (fun K hK=> ?_) aX;refine qK (X:=X) (w:=(w2.alloc (.cells #[.int .i64 o.1,.int .i64 o.2] 40)).drew) EN.out rf (.tmp 66) (.tmp 68) rf rf rf ((HRC.out.below jK)) om (ob:=o) (ad:=⟨w2.heap.size,0,none⟩) (by rw[addr_add];exact NB0.out) (by rw[addr_add];exact NB1.out) ?_;intro g' k' w4 jV hb4;have B4:Below w2.heap.size w2 w4:=(show Below w2.heap.size w2 ((w2.alloc (.cells #[.int .i64 o.1,.int .i64 o.2] 40)).drew) from jK).trans (hb4.mono sI);have y0:=(B4.cell (p:=⟨gh,k*2,none⟩) gl).trans g0;have y1:=(B4.cell (p:=⟨w.heap.size,0,none⟩) xl).trans x0;have y2:=(B4.cell (p:=⟨w.heap.size,1,none⟩) xl).trans x1;have yf:=(B4.frozen (p:=⟨gh,k*2,none⟩) gl).trans f0;have yl:gh<w4.heap.size:=aC gl B4.size;refine hK.out _ _ (by(try dsimp only);go_keep) (fun hHeld=> ?_);clear hK K;try simp only[Act.put,pA,pZ,pS]
  refine wpAnyH_done kR ?_ _;simp only[nX,aP,aU];have HO4:=ah jV;have HB4:=ah B4;clear jV hb4 B4 hHeld;go_wp2;go_ret;exact FIN.out w4 g' k' HB4.out HO4.out
 ·go_simp
  refine hK.out _ _ (by(try dsimp only);go_keep) (fun hHeld=> ?_);clear hK K;try simp only[Act.put,pA,pZ,pS]
  refine wpAnyH_ready (rs:=[5]) kR sI ?_;refine aR (jH rfl) (fun K hK=> ?_) aX;refine qJ rf 67 #[.slice qa n ca] kR (.slice qa n n) _ (CL.out _) ?_;refine hK.out _ _ (by(try dsimp only);go_keep) (fun hHeld=> ?_);clear hK K;try simp only[Act.put,pA,pZ,pS]
  refine wpAnyH_ready (rs:=[8]) kR sI ?_;refine aR (jH rfl) (fun K hK=> ?_) aX;refine qK (X:=X) (w:=(w2.alloc (.cells #[.int .i64 o.1,.int .i64 o.2] 40)).drew) EN.out rf (.tmp 66) (.tmp 68) rf rf rf ((HRC.out.below jK)) om (ob:=o) (ad:=⟨w2.heap.size,0,none⟩) (by rw[addr_add];exact NB0.out) (by rw[addr_add];exact NB1.out) ?_;intro g' k' w4 jV hb4;have B4:Below w2.heap.size w2 w4:=(show Below w2.heap.size w2 ((w2.alloc (.cells #[.int .i64 o.1,.int .i64 o.2] 40)).drew) from jK).trans (hb4.mono sI);have y0:=(B4.cell (p:=⟨gh,k*2,none⟩) gl).trans g0;have y1:=(B4.cell (p:=⟨w.heap.size,0,none⟩) xl).trans x0;have y2:=(B4.cell (p:=⟨w.heap.size,1,none⟩) xl).trans x1;have yf:=(B4.frozen (p:=⟨gh,k*2,none⟩) gl).trans f0;have yl:gh<w4.heap.size:=aC gl B4.size;refine hK.out _ _ (by(try dsimp only);go_keep) (fun hHeld=> ?_);clear hK K;try simp only[Act.put,pA,pZ,pS]
  refine wpAnyH_done kR ?_ _;simp only[nX,aP,aU];have HO4:=ah jV;have HB4:=ah B4;clear jV hb4 B4 hHeld;go_wp2;go_ret;exact FIN.out w4 g' k' HB4.out HO4.out
theorem dgive_2 (k:Nat) (o:Ob) (h:CD B w X pd pc pz gh mn lw hi O e v A V vp U d) (hF:Hid (∀f∈F,f∈X∧f∉xd pc v A d.c.L pd gh vp)) (hI:oH e d) (o1: -9223372036854775808≤o.2) (o2:o.2≤9223372036854775807) {t:List Ob} (hk:d.H[k]?=some (t,[])) (hl4:t.length=4) (ho:za e d o=true):
 Calls Tryz.prog 50 #[.pointer (some ⟨pd,0,none⟩),.int .i64 k,.agg #[.int .i64 o.1,.int .i64 o.2]] w (sj B ev pd pc pz gh mn lw hi O e X F w (kK e d k o)):=by
 have hkl:=(au.1 hk).1;have fd:oV (t,[]) d.P=(([],t),d.P):=by unfold oV;rw[if_pos hl4,if_pos rfl]
 rw[Al hk ho,fd];have b1:Below w.heap.size w (w.alloc (.cells #[.int .i64 o.1,.int .i64 o.2] 40)):=jK;have HL:=ah (show jD (w.alloc (.cells #[.int .i64 o.1,.int .i64 o.2] 40)) w.heap.size [.int .i64 o.1,.int .i64 o.2] from jD.mk_ w [.int .i64 o.1,.int .i64 o.2] 40 rfl);obtain⟨W1,hW1⟩:=eY (w.alloc (.cells #[.int .i64 o.1,.int .i64 o.2] 40));rw[←hW1] at b1 HL;have h1:=h.below b1;have HD:=ah (sQ h1 k hkl);have OU:=E8 o h1 hI o1 o2;rw[ho] at OU;have HOU:=ah OU;have m0:=HL.out.gC 0;have m1:=HL.out.gC 1;have ml:=HL.out.lt;have HB1:=ah b1;have HH:=ah h;have rg: ¬(w.heap.size=gh):=fun q=>by have:=(h.de.lim gh h.mJ).2;omega
 have VL:Hid (k<V.length):=by show k<V.length;rw[h.de.hl];exact hkl
 clear h b1 h1 OU hI ho;go_enter Tryz.func50,jy;go_wp2_with fail;rw[←hW1];clear hW1;refine HD.out.mono ?_;rintro r' w1 ⟨rfl,rfl⟩;go_wp2_with fail;refine HOU.out.mono ?_;rintro r' w2 ⟨rfl,hb2⟩;have B2:=HB1.out.trans (hb2.mono HB1.out.size);obtain⟨p,hp,r1,r2,g0,g1,f0,f1,gl⟩:=(HH.out.below B2).hand hk;obtain⟨⟨pa,pb⟩,rfl⟩: ∃q,q=p:=⟨_,rfl⟩;obtain⟨qt,ct,e1,_,_⟩:=r1.isSlice;obtain⟨qa,ca,e2,_,_⟩:=r2.isSlice;simp only at e1 e2 g0 g1 hp;rw[show([]:List Ob).length=0 from rfl] at e2;rw[hl4] at e1;subst e1 e2;have HLB2:=ah (HL.out.go hb2);have SW:=ah (Oh gh (k*2) qt qa 4 0 ct ca _ _ rfl rfl w2 g0 g1 f0 f1 gl);have HB2:=ah B2;have HL3:Hid (jD ((w2.setCell ⟨gh,k*2,none⟩ (.slice qa 0 ca)).setCell ⟨gh,k*2+1,none⟩ (.slice qt 4 ct)).drew gh (l6 (V.set k (.slice qa 0 ca,.slice qt 4 ct)))):=by
  have a1:=BG (HH.out.below B2).de.hs hp (.slice qa 0 ca);have a2:=hloc2 a1 (yM VL.out _) (.slice qt 4 ct);rw[Ik] at a2;exact a2.lT
 have K3:Keep [gh] w2 ((w2.setCell ⟨gh,k*2,none⟩ (.slice qa 0 ca)).setCell ⟨gh,k*2+1,none⟩ (.slice qt 4 ct)).drew:=(((Keep.refl _ _).setCell (p:=⟨gh,k*2,none⟩) (.inl sI) _).setCell (p:=⟨gh,k*2+1,none⟩) (.inl sI) _).drew;have hsx2: ∀s∈[gh],s∈X∨w2.heap.size≤s:=fun s q=>by simp at q;subst q;exact .inl (HH.out.de.mem s HH.out.mJ)
 have R1:=ah (r1.keep K3 hsx2);have R2:=ah (r2.keep K3 hsx2);have HK3:=ah K3;clear r1 r2 K3 HD HOU m0 m1 ml;go_wp2_with fail;refine SW.out.mono ?_;rintro r' w3 ⟨rfl,hw3⟩;rw[←hw3] at HL3 R1 R2 HK3;have KW:=ah ((Keep.of (S:=[gh]) HB2.out).then HK3.out);have g0':=HL3.out.c (k*2) _ (o7 (yM VL.out _)).1;have f0':=HL3.out.f (k*2) (by rw[kP,bZ];have:=VL.out;omega);have gl':=HL3.out.lt;have HLB:=ah (HLB2.out.keep HK3.out (by simpa using rg));have x0:=HLB.out.gC 0;have x1:=HLB.out.gC 1;have xl:=HLB.out.lt;obtain⟨rc,nl,nc,qn⟩:=lG.clip (l:=[]) (by simpa using R2.out);clear nl;have HRC:=ah rc;simp only at g0';have CL:Hid (∀W,Calls Tryz.prog 67 #[.slice qa 0 ca] W fun e w'=>e= .returned (.slice qa 0 0)∧w'=W):=fun W=>zh qa 0 ca W qn nc
 have VL3:Hid ((V.set k (.slice qa 0 ca,.slice qt 4 ct))[k]?=some (.slice qa 0 ca,.slice qt 4 ct)):=yM VL.out _;have NB0:Hid ((w3.alloc (.cells #[.int .i64 o.1,.int .i64 o.2] 40)).drew.cell? ⟨w3.heap.size,0+0,none⟩=some (.int .i64 o.1)):=(jD.mk_ w3 [.int .i64 o.1,.int .i64 o.2] 40 rfl).lT.gC 0;have NB1:Hid ((w3.alloc (.cells #[.int .i64 o.1,.int .i64 o.2] 40)).drew.cell? ⟨w3.heap.size,0+1,none⟩=some (.int .i64 o.2)):=(jD.mk_ w3 [.int .i64 o.1,.int .i64 o.2] 40 rfl).lT.gC 1;have FIN:Hid (∀w4 g' k',Below w3.heap.size w3 w4→w4.ownsRow ((w3.alloc (.cells #[.int .i64 o.1,.int .i64 o.2] 40)).drew).heap.size 40 2 (.slice (some ⟨g',0,none⟩) (0+1) k') (0+1) (kG ([]++[o]))→
  sj B ev pd pc pz gh mn lw hi O e X F w (⟨d.c,d.H.set k ([]++[o],t),d.P⟩,0) (.returned .nilIface) (w4.setCell ⟨gh,k*2,none⟩ (.slice (some ⟨g',0,none⟩) (0+1) k'))):=fun w4 g' k' hb hown=>by
  have hz:=KW.out.size;have kk:Keep [gh] w (w4.setCell ⟨gh,k*2,none⟩ (.slice (some ⟨g',0,none⟩) (0+1) k')):=(KW.out.step hb).setCell (p:=⟨gh,k*2,none⟩) (.inl sI) _;have hg4:=hown.lt g' rfl;have hs:((w3.alloc (.cells #[.int .i64 o.1,.int .i64 o.2] 40)).drew).heap.size=w3.heap.size+1:=sI;rw[hs] at hg4;have hgX:g'∉X:=fun q=>by have:=(HH.out.lim g' q).2;omega
  have k4:Keep [gh] w4 (w4.setCell ⟨gh,k*2,none⟩ (.slice (some ⟨g',0,none⟩) (0+1) k')):=(Keep.refl _ _).setCell (p:=⟨gh,k*2,none⟩) (.inl sI) _;have hsx: ∀s∈[gh],s∈X∨w4.heap.size≤s:=fun s q=>by simp at q;subst q;exact .inl (HH.out.de.mem s HH.out.mJ)
  have ro:lG X w4 (.slice (some ⟨g',0,none⟩) (0+1) k') ([]++[o]):=by
   exact pO (l:=[]++[o]) hown (fun g q=>by
    have:g=g':=by simpa[Value.ownBlock,eq_comm] using q
    subst this;exact hgX)
  have hl:=BG (HL3.out.keep (Keep.of (S:=[]) hb) sI) VL3.out (.slice (some ⟨g',0,none⟩) (0+1) k');rw[Ik] at hl;refine⟨rfl,X,⟨_,_,_,_,_,HH.out.Ol k (p':=(.slice (some ⟨g',0,none⟩) (0+1) k',.slice qt 4 ct)) (h':=([]++[o],t)) hkl kk (ro.keep k4 hsx) ((R1.out.below hb).keep k4 hsx) hl,hF.out⟩,kk.mono (fun s q=>by simp at q;subst q;exact HH.out.offy hF.out HH.out.mJ),fun _ q=>.inl q,fun _ q=>q⟩
 have EN:Hid (0=([]:List Ob).length):=rfl;clear rc hp B2 g0 g1 f0 f1 gl hw3 SW hb2 nc qn fd hl4 hsx2;go_wp2_with fail;refine jN (S:=(fun w'=>w'.cell? ⟨gh,k*2,none⟩=some (.slice qa 0 ca)∧w'.cell? ⟨w.heap.size,0,none⟩=some (.int .i64 o.1)∧w'.cell? ⟨w.heap.size,1,none⟩=some (.int .i64 o.2))) 9 #[false,false,false,false,false,false,false,false,false] rfl kR kR (by(try dsimp only);go_keep) (fun hHeld=> ?_);simp only[aQ,aW];refine tk 0 ?_;try simp only[Act.put,pA,pZ,pS]
 refine tk 1 ?_;try simp only[Act.put,pA,pZ,pS]
 refine tk 2 ?_;try simp only[Act.put,pA,pZ,pS]
 refine tk 3 ?_;try simp only[Act.put,pA,pZ,pS]
 refine tk 4 ?_;try simp only[Act.put,pA,pZ,pS]
 refine tk 6 ?_;try simp only[Act.put,pA,pZ,pS]
 refine wpAnyH_ready (rs:=[5,7]) kR sI ?_;refine aR (jH rfl) (fun K hK=> ?_) (aR (jH rfl) (fun K hK=> ?_) aX)
 ·refine qJ rf 67 #[.slice qa 0 ca] kR (.slice qa 0 0) _ (CL.out _) ?_
  refine hK.out _ _ (by(try dsimp only);go_keep) (fun hHeld=> ?_);clear hK K;try simp only[Act.put,pA,pZ,pS]
  refine wpAnyH_ready (rs:=[7]) kR sI ?_;refine aR (jH rfl) (fun K hK=> ?_) aX;go_simp
  refine hK.out _ _ (by(try dsimp only);go_keep) (fun hHeld=> ?_);clear hK K;try simp only[Act.put,pA,pZ,pS]
  refine wpAnyH_ready (rs:=[8]) kR sI ?_;refine aR (jH rfl) (fun K hK=> ?_) aX;refine qK (X:=X) (w:=(w3.alloc (.cells #[.int .i64 o.1,.int .i64 o.2] 40)).drew) EN.out rf (.tmp 66) (.tmp 68) rf rf rf ((HRC.out.below jK)) om (ob:=o) (ad:=⟨w3.heap.size,0,none⟩) (by rw[addr_add];exact NB0.out) (by rw[addr_add];exact NB1.out) ?_;intro g' k' w4 jV hb4;have B4:Below w3.heap.size w3 w4:=(show Below w3.heap.size w3 ((w3.alloc (.cells #[.int .i64 o.1,.int .i64 o.2] 40)).drew) from jK).trans (hb4.mono sI);have y0:=(B4.cell (p:=⟨gh,k*2,none⟩) gl').trans g0';have y1:=(B4.cell (p:=⟨w.heap.size,0,none⟩) xl).trans x0;have y2:=(B4.cell (p:=⟨w.heap.size,1,none⟩) xl).trans x1;have yf:=(B4.frozen (p:=⟨gh,k*2,none⟩) gl').trans f0';have yl:gh<w4.heap.size:=aC gl' B4.size;refine hK.out _ _ (by(try dsimp only);go_keep) (fun hHeld=> ?_);clear hK K;try simp only[Act.put,pA,pZ,pS]
  refine wpAnyH_done kR ?_ _;simp only[nX,aP,aU];have HO4:=ah jV;have HB4:=ah B4;clear jV hb4 B4 hHeld;go_wp2;go_ret;exact FIN.out w4 g' k' HB4.out HO4.out
 ·go_simp
  refine hK.out _ _ (by(try dsimp only);go_keep) (fun hHeld=> ?_);clear hK K;try simp only[Act.put,pA,pZ,pS]
  refine wpAnyH_ready (rs:=[5]) kR sI ?_;refine aR (jH rfl) (fun K hK=> ?_) aX;refine qJ rf 67 #[.slice qa 0 ca] kR (.slice qa 0 0) _ (CL.out _) ?_;refine hK.out _ _ (by(try dsimp only);go_keep) (fun hHeld=> ?_);clear hK K;try simp only[Act.put,pA,pZ,pS]
  refine wpAnyH_ready (rs:=[8]) kR sI ?_;refine aR (jH rfl) (fun K hK=> ?_) aX;refine qK (X:=X) (w:=(w3.alloc (.cells #[.int .i64 o.1,.int .i64 o.2] 40)).drew) EN.out rf (.tmp 66) (.tmp 68) rf rf rf ((HRC.out.below jK)) om (ob:=o) (ad:=⟨w3.heap.size,0,none⟩) (by rw[addr_add];exact NB0.out) (by rw[addr_add];exact NB1.out) ?_;intro g' k' w4 jV hb4;have B4:Below w3.heap.size w3 w4:=(show Below w3.heap.size w3 ((w3.alloc (.cells #[.int .i64 o.1,.int .i64 o.2] 40)).drew) from jK).trans (hb4.mono sI);have y0:=(B4.cell (p:=⟨gh,k*2,none⟩) gl').trans g0';have y1:=(B4.cell (p:=⟨w.heap.size,0,none⟩) xl).trans x0;have y2:=(B4.cell (p:=⟨w.heap.size,1,none⟩) xl).trans x1;have yf:=(B4.frozen (p:=⟨gh,k*2,none⟩) gl').trans f0';have yl:gh<w4.heap.size:=aC gl' B4.size;refine hK.out _ _ (by(try dsimp only);go_keep) (fun hHeld=> ?_);clear hK K;try simp only[Act.put,pA,pZ,pS]
  refine wpAnyH_done kR ?_ _;simp only[nX,aP,aU];have HO4:=ah jV;have HB4:=ah B4;clear jV hb4 B4 hHeld;go_wp2;go_ret;exact FIN.out w4 g' k' HB4.out HO4.out
end
end Go.Proofs.YtehhldljdakgeaaGreatDoor
