/- Lemmas and contracts for the claim's last text: SGrow, STake, SArith, SFind. -/
import Derived.Test.YtdcbhlcbiokbeaaGreatDoorMa01
import Derived.Test.YtdcbhlcbiokbeaaGreatDoorMa06
import Derived.Test.YtdcbhlcbiokbeaaGreatDoorMa07
import Derived.Test.YtdcbhlcbiokbeaaGreatDoorMa08
set_option linter.unusedSimpArgs false
set_option linter.unusedVariables false
set_option maxHeartbeats 16000000
set_option maxRecDepth 100000
namespace Go.Proofs.YtdcbhlcbiokbeaaGreatDoor
section
open Go.RowKit Go.Maps
attribute [local go_sem ↓] aW aX
theorem Fu (pz e:Nat) (w:World) (e1:1≤e) (e2:e≤64):
 Calls Tryz.prog 20 #[.pointer (some ⟨pz,0,none⟩),.int .i64 e] w fun r w'=>r= .returned (.tuple #[.pointer (some ⟨w.heap.size,0,none⟩),.nilIface])∧w'=w.alloc (.cells #[.pointer (some ⟨pz,0,none⟩),.int .i64 e,.slice none 0 0] 200):=by
 have d1:decide ((e:Int)<1)=false:=decide_eq_false om
 have d2:decide ((64:Int)<e)=false:=decide_eq_false om
 have d3:decide (64<e)=false:=decide_eq_false om
 go_enter Tryz.func20,Tryz.ntmps20
 go_wp2
 go_ret2
 exact⟨rfl,rfl⟩
section
variable {B:Nat} {ev:Nat→Addr} {pc pz e:Nat} {mn lw hi:Int} {O:List (List Int)} {X:List Nat} {vs:Value} {A:SA} {c:Ca} {w:World}
theorem cnode_ok (h:CS B w pc pz mn lw hi O e X vs A c) (v:Nat) (hv:v<c.L.length):
 Calls Tryz.prog 115 #[.pointer (some ⟨pc,0,none⟩),.int .i64 v] w fun r w'=>r= .returned .nilIface∧Below w.heap.size w w':=by
 obtain⟨x,hx⟩: ∃x,c.L[v]?=some x:=⟨c.L[v],au _⟩
 have FR:=ah (tY pz mn lw hi O c.L v x w h.z.toB hx)
 have c0:=h.ch.c.c 0 _ rfl;have cl:=h.ch.c.lt
 clear h hx
 go_enter Tryz.func115,Tryz.ntmps115
 go_wp2_with fail
 refine FR.out.mono ?_
 rintro r w1 ⟨rfl,hb1⟩
 go_wp2
 go_ret
 exact⟨rfl,hb1⟩
theorem Fv (hE:qh B ev w) (h:CS B w pc pz mn lw hi O e X vs A c) (v:Int) (hv:v<0∨(c.L.length:Int)≤v):
 Calls Tryz.prog 115 #[.pointer (some ⟨pc,0,none⟩),.int .i64 v] w fun r w'=>r= .returned (jB ev 2)∧Below w.heap.size w w':=by
 have FR:=ah (r9 pz mn lw hi O c.L v w hE h.z.toB h.l0 hv)
 have c0:=h.ch.c.c 0 _ rfl;have cl:=h.ch.c.lt
 have e1:jB ev 2= .iface 434 (.pointer (some (ev 2))):=rfl
 rw[e1] at FR ⊢
 clear h hv hE e1
 go_enter Tryz.func115,Tryz.ntmps115
 go_wp2_with fail
 refine FR.out.mono ?_
 rintro r w1 ⟨rfl,hb1⟩
 go_wp2
 go_ret
 exact⟨rfl,hb1⟩
def BU (B:Nat) (ev:Nat→Addr) (pc pz:Nat) (mn lw hi:Int) (O:List (List Int)) (e:Nat) (X:List Nat) (vs:Value) (A:SA) (c:Ca) (w:World) (L':List Nd) (q:Nat) (r:Ending) (w':World):Prop:=
 r= .returned (.tuple #[.pointer none,jB ev q])∧CS B w' pc pz mn lw hi O e X vs A ⟨L',c.C⟩∧Keep (ys c.L) w w'
theorem cgrow_no (v:Int) (u:Bool) (hE:qM B ev w) (h:CS B w pc pz mn lw hi O e X vs A c) (L':List Nd) (q:Nat) (nd pg k:Int) (ht:j4 mn O c.L v 0 u=(L',q+1,(nd,pg,k))):
 Calls Tryz.prog 116 #[.pointer (some ⟨pc,0,none⟩),.int .i64 v,.bool u] w (BU B ev pc pz mn lw hi O e X vs A c w L' (q+1)):=by
 have TK:=yT pz mn lw hi O c.L v 0 u w hE h.z.toB h.l0
 have SZ:=ah (lZ mn O c.L v 0 u)
 rw[ht] at TK SZ
 have HT:=ah TK;have HH:=ah h
 have c0:=h.ch.c.c 0 _ rfl;have cl:=h.ch.c.lt
 obtain⟨vv,hvv⟩: ∃vv,vv=ev (q+1):=⟨_,rfl⟩
 have e1:jB ev (q+1)= .iface 434 (.pointer (some vv)):=by rw[hvv];rfl
 unfold BU
 rw[e1]
 have E1:=ah e1
 clear h TK e1 hvv ht
 go_enter Tryz.func116,Tryz.ntmps116
 go_wp2_with fail
 refine HT.out.mono ?_
 rintro r w1 ⟨hr,hz1,hk1⟩
 simp only[E1.out,plV] at hr
 subst hr
 have H1:=ah (HH.out.zone hk1 hz1 SZ.out)
 have HK1:=ah hk1
 have z1:=hk1.size
 clear hz1 hk1
 go_wp2
 go_ret2
 exact⟨rfl,H1.out.below iB,HK1.out.step iB⟩
theorem za {P:Program} {ops:Array Oper} {o:Oper} {a:Act} {w:World} {K:Act→World→Prop} {Q:Exit→Act→World→Prop} {E:Prop}
 (hg:o.guard=none) (t:TypeId) (x y:Operand) (hop:o.op=Op.makeSlice t x y) (u v:Value) (hx:a.eval x=u) (hy:a.eval y=v) {v':Value} {w':World} (hr:(Instr.makeSlice t u v).run P w= .ok v' w') (hK:K (a.put o.dst v') w'):
 if Region.wanted o (yielded ops a.tmps)=true then Oper.wp P o a w K Q else E:=by
 have hw:Region.wanted o (yielded ops a.tmps)=true:=by simp[Region.wanted,hg]
 rw[if_pos hw]
 unfold Oper.wp
 simp[execOp,hop,hx,hy,hr,Result.andThen]
 exact hK
theorem wW (e:Nat):madeCells (Value.bool false).cells (iM e)=(bools (iG e)).toArray:=by
 unfold madeCells bools iG
 apply Array.ext
 ·simp[Value.cells]
 ·intro i h1 h2
  simp[Value.cells,Nat.mod_one]
def GrowYes (B:Nat) (pc pz:Nat) (mn lw hi:Int) (O:List (List Int)) (e:Nat) (X:List Nat) (vs:Value) (A:SA) (c:Ca) (w:World) (L':List Nd) (s:Sl) (r:Ending) (w':World):Prop:=
 ∃p X' v' A',r= .returned (.tuple #[.pointer (some ⟨p.1,0,none⟩),.nilIface])∧CS B w' pc pz mn lw hi O e X' v' A' ⟨L',oP c.C s⟩∧A'[oK s.nd s.pg c.C]?=some p∧Keep (cay pc vs A++ys c.L) w w'∧(∀x∈X,x∈X')∧(∀x∈X',x∈X∨w.heap.size≤x)∧∀y∈cay pc v' A',y∈cay pc vs A∨w.heap.size≤y
theorem Fw (v:Int) (u:Bool) (hE:qM B ev w) (h:CS B w pc pz mn lw hi O e X vs A c) (hI:l8 e c) (hB:B≤w.heap.size) (L':List Nd) (nd pg:Int) (ht:j4 mn O c.L v 0 u=(L',0,(nd,pg,0))):
 Calls Tryz.prog 116 #[.pointer (some ⟨pc,0,none⟩),.int .i64 v,.bool u] w (GrowYes B pc pz mn lw hi O e X vs A c w L' ⟨nd,pg,iG e⟩):=by
 obtain⟨qv,kv,evs,_⟩:=h.ch.form
 subst evs
 have TK:=yT pz mn lw hi O c.L v 0 u w hE h.z.toB h.l0
 have SZ:=ah (lZ mn O c.L v 0 u)
 rw[ht] at TK SZ
 have HT:=ah TK;have HH:=ah h
 have c0:=h.ch.c.c 0 _ rfl;have cl:=h.ch.c.lt
 have HI:=ah hI
 have e1:=hI.e1;have e2:=hI.e2
 clear h TK ht hI
 go_enter Tryz.func116,Tryz.ntmps116
 go_wp2_with fail
 refine HT.out.mono ?_
 rintro r w1 ⟨hr,hz1,hk1⟩
 simp only[plV,jB] at hr
 subst hr
 have H1:=HH.out.zone hk1 hz1 SZ.out
 have HK1:=ah hk1
 have z1:=hk1.size
 have k1:=H1.ch.c.c 1 _ rfl;have k2:=H1.ch.c.c 2 _ rfl;have kl:=H1.ch.c.lt
 have H1':=ah H1
 clear hz1 hk1 H1 c0 cl
 go_wp2_with fail
 obtain⟨W2,hW2⟩: ∃W2,W2=w1.alloc (.cells #[.int .i64 nd,.int .i64 pg,.int .i64 0] 61):=⟨_,rfl⟩
 rw[←hW2]
 have P2:iy W2 w1.heap.size [.int .i64 nd,.int .i64 pg,.int .i64 0]:=by rw[hW2];exact iy.mk_ w1 [.int .i64 nd,.int .i64 pg,.int .i64 0] 61 rfl
 have b2:Below w1.heap.size w1 W2:=by rw[hW2];exact iB
 have s2:W2.heap.size=w1.heap.size+1:=by rw[hW2];simp
 clear hW2
 have p0:=P2.c 0 _ rfl;have p1:=P2.c 1 _ rfl;have p2:=P2.c 2 _ rfl;have pl:=P2.lt
 have g1:W2.cell? ⟨pc,1,none⟩=some (.int .i64 e):=(b2.cell (p:=⟨pc,1,none⟩) kl).trans k1
 have g2:W2.cell? ⟨pc,2,none⟩=some (.slice qv c.C.length kv):=(b2.cell (p:=⟨pc,2,none⟩) kl).trans k2
 have gl:pc<W2.heap.size:=om
 have en0: ¬((e:Int)=0):=om
 have en1: ¬(e=0):=om
 have hq0:(64:Int) / (e:Int)=(iM e:Int):=by unfold iM;rw[Int.natCast_ediv];rfl
 have hq:(64:Int).tdiv (e:Int)=(iM e:Int):=by rw[dQ om];exact hq0
 have r64:iM e≤64:=by unfold iM;exact bU _ _
 have hwr:IntKind.i64.wrap ((iM e:Nat):Int)=(iM e:Int):=aP _ om
 have MK:Hid (∀W:World,(Instr.makeSlice 209 (.int .i64 (iM e:Nat)) (.int .i64 (iM e:Nat))).run Tryz.prog W= .ok (.slice (some ⟨W.heap.size,0,none⟩) (iM e) (iM e)) (W.alloc (.cells (bools (iG e)).toArray 4))):=fun W=>by
  obtain⟨i0,hi0,hz0,hzs,hzb⟩:=info_parts (P:=Tryz.prog) (e:=4) (z:=.bool false) (size:=1) (bytes:=1) kR
  have:=run_make (P:=Tryz.prog) W 209 4 i0 _ Tryz.underlying209 hi0 hz0 .i64 .i64 (iM e:Nat) (iM e:Nat) om (bZ _) (by rw[hzb];omega) om
  rw[this,hzs]
  simp only[bJ,Nat.mul_one]
  have em:madeCells (Value.bool false).cells (iM e)=(bools (iG e)).toArray:=wW e
  rw[em]
 refine iP (S:=(fun w'=>w'.cell? ⟨w1.heap.size,0,none⟩=some (.int .i64 nd)∧w'.cell? ⟨w1.heap.size,1,none⟩=some (.int .i64 pg)∧w'.cell? ⟨w1.heap.size,2,none⟩=some (.int .i64 0)∧w'.cell? ⟨pc,1,none⟩=some (.int .i64 e))) 9 #[false,false,false,false,false,false,false,false,false] rfl kR kR (by(try dsimp only);go_keep) (fun hHeld=> ?_)
 simp only[aV,bB]
 refine ctk (i:=0) (v:= ?_) rfl (fun _ _ _ h=>h) (Or.inl ⟨rf,?_⟩) ?_
 rotate_left
 ·(intro w hSw;(try dsimp only at hSw);go_simp<;>with_reducible rfl)
 try simp only[Act.put,pA,pZ,pS]
 refine ctk (i:=1) (v:= ?_) rfl (fun _ _ _ h=>h) (Or.inl ⟨rf,?_⟩) ?_
 rotate_left
 ·(intro w hSw;(try dsimp only at hSw);go_simp<;>with_reducible rfl)
 try simp only[Act.put,pA,pZ,pS]
 refine ctk (i:=2) (v:= ?_) rfl (fun _ _ _ h=>h) (Or.inl ⟨rf,?_⟩) ?_
 rotate_left
 ·(intro w hSw;(try dsimp only at hSw);go_simp<;>with_reducible rfl)
 try simp only[Act.put,pA,pZ,pS]
 refine ctk (i:=3) (v:= ?_) rfl (fun _ _ _ h=>h) (Or.inl ⟨rf,?_⟩) ?_
 rotate_left
 ·(intro w hSw;(try dsimp only at hSw);go_simp<;>with_reducible rfl)
 try simp only[Act.put,pA,pZ,pS]
 refine ctk (i:=4) (v:= ?_) rfl (fun _ _ _ h=>h) (Or.inl ⟨rf,?_⟩) ?_
 rotate_left
 ·(intro w hSw;(try dsimp only at hSw);go_simp<;>with_reducible rfl)
 try simp only[Act.put,pA,pZ,pS]
 refine ctk (i:=5) (v:= ?_) rfl (fun _ _ _ h=>h) (Or.inl ⟨rf,?_⟩) ?_
 rotate_left
 ·(intro w hSw;(try dsimp only at hSw);go_simp<;>with_reducible rfl)
 try simp only[Act.put,pA,pZ,pS]
 refine wpAnyH_ready (rs:=[6]) kR sI ?_
 refine aY (iH rfl) (fun K hK=> ?_) bC
 refine za rf 209 (.tmp 31) (.tmp 31) rf _ _ rf rf (MK.out _) ?_
 refine hK.out _ _ (by(try dsimp only);go_keep) (fun hHeld=> ?_)
 clear hK K
 try simp only[Act.put,pA,pZ,pS]
 refine ctk (i:=7) (v:= ?_) rfl (fun _ _ _ h=>h) (Or.inl ⟨rf,?_⟩) ?_
 rotate_left
 ·(intro w hSw;(try dsimp only at hSw);go_simp<;>with_reducible rfl)
 try simp only[Act.put,pA,pZ,pS]
 refine wpAnyH_ready (rs:=[8]) kR sI ?_
 refine aY (iH rfl) (fun K hK=> ?_) bC
 go_simp
 refine hK.out _ _ (by(try dsimp only);go_keep) (fun hHeld=> ?_)
 clear hK K
 try simp only[Act.put,pA,pZ,pS]
 refine wpAnyH_done kR ?_ _
 simp only[nR,aS,bq]
 go_wp2_with fail
 have nl:(iG e).length=iM e:=by unfold iG;simp
 obtain⟨W3,hW3⟩: ∃W3,W3=((W2.alloc (.cells (bools (iG e)).toArray 4)).alloc (.cells #[.int .i64 nd,.int .i64 pg,.int .i64 0,.slice (some ⟨w1.heap.size+1,0,none⟩) (iM e) (iM e),.int .i64 0] 211)).drew:=⟨_,rfl⟩
 rw[←hW3]
 have LG:iy W3 (w1.heap.size+1) (bools (iG e)):=by
  rw[hW3];exact((iy.mk_ W2 (bools (iG e)) 4 s2).past _).jF
 have LS:iy W3 (w1.heap.size+1+1) [.int .i64 nd,.int .i64 pg,.int .i64 0,.slice (some ⟨w1.heap.size+1,0,none⟩) (iM e) (iM e),.int .i64 0]:=by
  rw[hW3];exact(iy.mk_ (W2.alloc (.cells (bools (iG e)).toArray 4)) [.int .i64 nd,.int .i64 pg,.int .i64 0,.slice (some ⟨w1.heap.size+1,0,none⟩) (iM e) (iM e),.int .i64 0] 211 (by simp[s2])).jF
 have b3:Below W2.heap.size W2 W3:=by rw[hW3];exact iB
 have s3:W3.heap.size=w1.heap.size+1+1+1:=by rw[hW3];simp[s2]
 have SB3:=ah (show nQ W3 (w1.heap.size+1+1,w1.heap.size+1) ⟨nd,pg,iG e⟩ from⟨by
  have e0:jV ⟨nd,pg,iG e⟩ (w1.heap.size+1)=[.int .i64 nd,.int .i64 pg,.int .i64 0,.slice (some ⟨w1.heap.size+1,0,none⟩) (iM e) (iM e),.int .i64 0]:=by
   have m0:iD ⟨nd,pg,iG e⟩=0:=pV e
   unfold jV;rw[m0];simp[nl]
  show iy W3 (w1.heap.size+1+1) (jV ⟨nd,pg,iG e⟩ (w1.heap.size+1))
  rw[e0];exact LS,LG⟩)
 have B13:=ah (show Below w1.heap.size w1 W3 from b2.trans (b3.mono om))
 have q0:=(P2.go b3).c 0 _ rfl;have q1:=(P2.go b3).c 1 _ rfl;have q2:=(P2.go b3).c 2 _ rfl;have ql:=(P2.go b3).lt
 have x2:W3.cell? ⟨pc,2,none⟩=some (.slice qv c.C.length kv):=(b3.cell (p:=⟨pc,2,none⟩) gl).trans g2
 have xl:pc<W3.heap.size:=om
 obtain⟨i,hi⟩: ∃i,i=oK nd pg c.C:=⟨_,rfl⟩
 have hil:i≤c.C.length:=by rw[hi];exact sw _ _ _
 have few:=HI.out.few
 have LA:=H1'.out.ch.len
 have BS:Hid (∀W,Below W3.heap.size W3 W→Calls Tryz.prog 211 #[.slice qv c.C.length kv,.agg #[.int .i64 nd,.int .i64 pg,.int .i64 0],.func (.func 212) #[] #[]] W fun r w'=>r= .returned (.tuple #[.int .i64 i,.bool (hitS nd pg c.C)])∧Below W.heap.size W w'):=fun W b=>by
  rw[hi]
  exact D7 nd pg W (H1'.out.ch.below (B13.out.trans (b.mono om))) HI.out.srt few
 have IN:Hid (∀W vb,Below W3.heap.size W3 W→Row1 W vb 208 [.pointer (some ⟨w1.heap.size+1+1,0,none⟩)]→W3.heap.size≤vb→Calls Tryz.prog 214 #[.slice qv c.C.length kv,.int .i64 i,.slice (some ⟨vb,0,none⟩) 1 1] W (pJ B (.slice qv c.C.length kv) (iW A) i (.pointer (some ⟨w1.heap.size+1+1,0,none⟩)) W)):=fun W vb b hr hvb=>by
  have hc:=H1'.out.ch.below (B13.out.trans (b.mono om))
  have el:c.C.length=(iW A).length:=by rw[lq,LA]
  have ho:W.ownsRow B 208 1 (.slice qv c.C.length kv) (iW A).length (iW A):=by rw[←el];exact hc.row
  rw[el] at ho
  rw[el]
  refine sins_ok (.slice qv (iW A).length kv) i (iW A) _ vb W ho (by rw[←el];exact hil) (uX A) rfl (by rw[←el];omega) hr (fun q=> ?_) (by have:=b.size;have:=HK1.out.size;omega)
  rw[←el] at q
  have:=(H1'.out.ch.lim vb (ak _ (av _ q))).2
  omega
 have HIP:=ah hi;have S3:=ah s3
 clear s3 P2 p0 p1 p2 pl g1 g2 gl en0 en1 hq0 hq hwr MK b2 b3 LG LS hW3 k1 k2 kl hi hHeld nl r64
 refine iC kR kR ?_
 repeat(go_big_quiet_step (((go_at_call 211;exact Calls.behind (BS.out _ (Behind.h _))))))
 refine wpQuiet_nil ?_
 intro w4 hw'
 have hb4:=iZ hw'
 clear hw'
 obtain⟨c4,f4⟩:=qD hb4;have z4:=hb4.size;try simp at z4 c4 f4
 have B14:=ah (B13.out.trans (hb4.mono (by have:=S3.out;omega)))
 have HB4:=ah hb4
 have HC4:=ah (H1'.out.ch.below B14.out)
 have y2:=HC4.out.c.c 2 _ rfl;have yf:=HC4.out.c.f 2 sI;have yl:=HC4.out.c.lt
 have S4:=ah z4
 have SB4:=ah (SB3.out.keep (Keep.of (S:=[]) hb4) sI sI)
 clear q0 q1 q2 ql x2 xl z4 hb4
 go_wp2_with fail
 obtain⟨W5,hW5⟩: ∃W5,W5=w4.alloc (.cells #[.pointer (some ⟨w1.heap.size+1+1,0,none⟩)] 208):=⟨_,rfl⟩
 rw[←hW5]
 have R5:Row1 W5 w4.heap.size 208 [.pointer (some ⟨w1.heap.size+1+1,0,none⟩)]:=⟨_,by rw[hW5];exact gW w4 _,rfl⟩
 have b5:Below w4.heap.size w4 W5:=by rw[hW5];exact iB
 clear hW5
 have HB5:=ah b5
 refine(IN.out W5 w4.heap.size (HB4.out.trans (b5.mono (by have:=S4.out;omega))) R5 (by have:=S4.out;omega)).mono ?_
 rintro r w6 ⟨q6,k6,rfl,hown6,hk6,hv6⟩
 have HC5:=HC4.out.below b5
 have hpv:pc∉iF (.slice qv c.C.length kv):=fun q=>(aZ.1 HC5.nd).1 (av _ q)
 have C6:=HC5.c.keep hk6 hpv
 have u2:=C6.c 2 _ rfl;have uf:=C6.f 2 sI;have ul:=C6.lt
 have HO6:=ah hown6;have HK6:=ah hk6;have HV6:=ah hv6;have HC5':=ah HC5
 clear hown6 hk6 hv6 HC5 C6 R5 b5 y2 yf yl hpv
 go_wp2
 go_ret2
 have el:(iW A).length=c.C.length:=by rw[lq,LA]
 have s3:=S3.out;have s4:=S4.out;have zk:=HK1.out.size
 have own6:=HO6.out
 have v6:=HV6.out
 rw[←yV A i (w1.heap.size+1+1,w1.heap.size+1)] at own6
 simp only[el] at own6 v6 ⊢
 have lmc:=H1'.out.ch.lim
 have lmz:=H1'.out.z.b.lim
 obtain⟨n1,n2,n3⟩:=HC5'.out.ins (w1:=w6) (w':=w6.setCell ⟨pc,2,none⟩ (.slice q6 (c.C.length+1) k6)) (p:=(w1.heap.size+1+1,w1.heap.size+1)) (i:=i) (s:=⟨nd,pg,iG e⟩) (n:=0) hil HK6.out own6 rfl (SB4.out.keep (Keep.of (S:=[]) HB5.out) sI sI) (fun q=>by have:=(lmc _ q).2;omega) (fun q=>by have:=(lmc _ q).2;omega) sI (by show B≤_;omega) (by show B≤_;omega) v6
 have z5:=HB5.out.size
 refine⟨(w1.heap.size+1+1,w1.heap.size+1),_,_,_,rfl,⟨?_,by unfold oP;rw[←HIP.out];exact n1,fun y hy=> ?_,H1'.out.l0⟩,?_,?_,?_,?_,?_⟩
 ·have zA:=H1'.out.z.more (Y:=(w1.heap.size+1+1)::(w1.heap.size+1)::X) (fun x hx=>by simp[hx]) (fun y hy=>by
   simp at hy
   rcases hy with rfl|rfl|hy
   ·exact .inr om
   ·exact .inr om
   ·exact .inl hy)
  have zB:=zA.below (B14.out.trans (HB5.out.mono om))
  have zC:=zB.more (Y:=(w1.heap.size+1+1)::(w1.heap.size+1)::(iF (.slice q6 (c.C.length+1) k6)++X)) (fun x hx=>by
   simp at hx ⊢
   rcases hx with h|h|h
   ·simp[h]
   ·simp[h]
   ·simp[h]) (fun y hy=>by
   simp only[aC,aG] at hy ⊢
   rcases hy with h|h|h|h
   ·exact .inl (.inl h)
   ·exact .inl (.inr (.inl h))
   ·rcases v6 y h with t|t
    ·exact .inl (.inr (.inr (H1'.out.ch.mem y (ak _ (av _ t)))))
    ·exact .inr t
   ·exact .inl (.inr (.inr h)))
  exact zC.keep n2 (fun s hs=>.inl ⟨by
   have:s∈X:=H1'.out.ch.mem s (by
    rcases aC.1 hs with t|t
    ·subst t;exact aD ..
    ·exact ak _ (av _ t))
   simp[this],H1'.out.ne s (by
    rcases aC.1 hs with t|t
    ·subst t;exact aD ..
    ·exact ak _ (av _ t))⟩)
 ·intro q
  have ql:y<w1.heap.size:=(lmz y q).2
  rcases n3 y (by rw[HIP.out] at hy ⊢;exact hy) with t|t|t|t
  ·exact H1'.out.ne y t q
  ·simp at t;omega
  ·simp at t;omega
  ·omega
 ·show(A.take i++_::A.drop i)[oK nd pg c.C]?=_
  have la:i≤A.length:=by have:A.length=c.C.length:=LA;omega
  rw[←HIP.out,qJ la i]
  simp
 ·refine Keep.then (b:=W5) ((HK1.out.mono (fun y q=>aA _ q)).step (B14.out.trans (HB5.out.mono om))) (n2.mono (fun y q=>av _ ?_))
  rcases aC.1 q with t|t
  ·subst t;exact aD ..
  ·exact ak _ (av _ t)
 ·intro x hx
  simp[hx]
 ·intro x hx
  simp only[aC,aG] at hx
  rcases hx with h|h|h|h
  ·exact .inr om
  ·exact .inr om
  ·rcases v6 x h with t|t
   ·exact .inl (H1'.out.ch.mem x (ak _ (av _ t)))
   ·exact .inr om
  ·exact .inl h
 ·intro y hy
  rcases n3 y hy with t|t|t|t
  ·exact .inl t
  ·exact .inr (by simp at t;omega)
  ·exact .inr (by simp at t;omega)
  ·exact .inr om
end
end
section
open Go.RowKit Go.Maps
attribute [local go_sem ↓] aW aX
theorem tZ {v:Int} {C:List Sl} {i:Nat} {s:Sl} (hs:C[i]?=some s) (h: ¬(s.nd=v∧iD s<s.T.length)):jU v C (i+1)=jU v C i:=by
 show(match C[i]? with|none=>_|some s=>_)=_
 rw[hs];simp only[if_neg h]
theorem ze {v:Int} {C:List Sl} {i:Nat} {s:Sl} (hs:C[i]?=some s) (h:s.nd=v∧iD s<s.T.length) (hb:jU v C i=none):jU v C (i+1)=some i:=by
 show(match C[i]? with|none=>_|some s=>_)=_
 rw[hs];simp only[if_pos h,hb]
theorem wX {v:Int} {C:List Sl} {i m:Nat} {s z:Sl} (hs:C[i]?=some s) (h:s.nd=v∧iD s<s.T.length) (hb:jU v C i=some m) (hz:C[m]?=some z):jU v C (i+1)=if iD z<iD s then some i else some m:=by
 show(match C[i]? with|none=>_|some s=>_)=_
 rw[hs];simp only[if_pos h,hb,qY hz]
def wu (A:SA) (b:Option Nat):Value:=match b with
 |none=>.pointer none
 |some m=>match A[m]? with|some p=>.pointer (some ⟨p.1,0,none⟩)|none=>.pointer none
theorem kG {A:SA} {m:Nat} {p:Nat×Nat} (h:A[m]?=some p):wu A (some m)= .pointer (some ⟨p.1,0,none⟩):=by unfold wu;simp[h]
theorem Fx (C:List Sl) (s t:Sl) (h1:t.nd=s.nd) (h2:t.pg=s.pg):(oP C s).set (oK s.nd s.pg C) t=oP C t:=by
 unfold oP
 have hl:(C.take (oK s.nd s.pg C)).length=oK s.nd s.pg C:=by rw[aQ];have:=sw s.nd s.pg C;omega
 rw[gT _ _ om,hl,Nat.sub_self,h1,h2];rfl
theorem ins_at (C:List Sl) (s:Sl):(oP C s)[oK s.nd s.pg C]?=some s:=by
 unfold oP
 rw[qJ (sw _ _ _)];simp
section
variable {B:Nat} {ev:Nat→Addr} {pc pz e:Nat} {mn lw hi:Int} {O:List (List Int)} {X Xt:List Nat} {vs vt:Value} {A At:SA} {c ct:Ca} {w wt:World} {r:Ca×Nat×Ob} {m:Nat} {s:Sl} {p:Nat×Nat}
def qK (B:Nat) (ev:Nat→Addr) (pc pz:Nat) (mn lw hi:Int) (O:List (List Int)) (e:Nat) (X:List Nat) (vs:Value) (A:SA) (c:Ca) (w:World) (r:Ca×Nat×Ob) (en:Ending) (w':World):Prop:=
 en= .returned (.tuple #[obV r.2.2,jB ev r.2.1])∧∃X' v' A',CS B w' pc pz mn lw hi O e X' v' A' r.1∧Keep (cay pc vs A++ys c.L) w w'∧(∀x∈X,x∈X')∧(∀x∈X',x∈X∨w.heap.size≤x)∧∀y∈cay pc v' A',y∈cay pc vs A∨w.heap.size≤y
structure TkS (B:Nat) (w wt:World) (pc pz:Nat) (mn lw hi:Int) (O:List (List Int)) (e:Nat) (X:List Nat) (vs:Value) (A:SA) (c:Ca) (r:Ca×Nat×Ob) (Xt:List Nat) (vt:Value) (At:SA) (ct:Ca) (m:Nat) (s:Sl) (p:Nat×Nat):Prop where
 cs:CS B wt pc pz mn lw hi O e Xt vt At ct
 hs:ct.C[m]?=some s
 hp:At[m]?=some p
 hm:jG s.T<s.T.length
 hl:s.T.length≤64
 rr:r=(⟨ct.L,ct.C.set m (jH s (iO s.T) true)⟩,0,mg e s (iO s.T))
 kk:Keep (cay pc vs A++ys c.L) w wt
 x1: ∀x∈X,x∈Xt
 x2: ∀x∈Xt,x∈X∨w.heap.size≤x
 y1: ∀y∈cay pc vt At,y∈cay pc vs A∨w.heap.size≤y
 t1:w.heap.size∈Xt
 t2:w.heap.size∉cay pc vt At
 t3:w.heap.size∉ys ct.L
 lr:iy wt w.heap.size [.int .i64 0,.int .i64 0]
theorem TkS.fin (h:TkS B w wt pc pz mn lw hi O e X vs A c r Xt vt At ct m s p) {W W':World} (hW:W=(wt.setCell ⟨p.2,iO s.T,none⟩ (.bool true)).setCell ⟨p.1,4,none⟩ (.int .i64 (iD (jH s (iO s.T) true)))) (k:Keep [w.heap.size] W W'):
 qK B ev pc pz mn lw hi O e X vs A c w r (.returned (.tuple #[obV r.2.2,.nilIface])) W':=by
 obtain⟨m1,m2,m3⟩:=h.cs.slab h.hp
 obtain⟨s1,s2⟩:=nQ.put (k:=iO s.T) true (h.cs.ch.sl m p s h.hp h.hs) m3 (jr h.hm).1
 rw[←hW] at s1 s2
 have c1:=h.cs.use h.hp s1 s2
 have c2:=c1.keep k (fun x hx=>by
  simp at hx;subst hx
  exact⟨h.t2,.inl ⟨h.t1,h.t3⟩⟩)
 have e2:r.2.1=0:=by rw[h.rr]
 have e1:r.1=⟨ct.L,ct.C.set m (jH s (iO s.T) true)⟩:=by rw[h.rr]
 refine⟨by rw[e2];rfl,Xt,vt,At,by rw[e1];exact c2,?_,h.x1,h.x2,h.y1⟩
 refine(h.kk.trans s2 (fun x hx=> ?_)).trans k (fun x hx=>by simp at hx;subst hx;exact .inr (aI _))
 simp at hx
 rcases hx with rfl|rfl
 ·exact(h.y1 _ m1).imp (fun q=>av _ q) id
 ·exact(h.y1 _ m2).imp (fun q=>av _ q) id
theorem Fy (v:Int) (u:Bool) (hE:qM B ev w) (h:CS B w pc pz mn lw hi O e X vs A c) (hv:v<0∨(c.L.length:Int)≤v):
 Calls Tryz.prog 23 #[.pointer (some ⟨pc,0,none⟩),.int .i64 v,.bool u] w (qK B ev pc pz mn lw hi O e X vs A c w (takeC mn O e c v u)):=by
 have et:takeC mn O e c v u=(c,2,(0,0)):=by unfold takeC;rw[if_pos hv]
 rw[et]
 have b1:Below w.heap.size w (w.alloc (.cells #[.int .i64 0,.int .i64 0] 49)):=iB
 have L1:=ah (iy.mk_ w [.int .i64 0,.int .i64 0] 49 rfl)
 have NO:=ah (Fv (hE.go b1).c (h.below b1) v hv)
 have e1:jB ev 2= .iface 434 (.pointer (some (ev 2))):=rfl
 have FIN:Hid (∀W,Below w.heap.size w W→qK B ev pc pz mn lw hi O e X vs A c w (c,2,(0,0)) (.returned (.tuple #[.agg #[.int .i64 0,.int .i64 0],.iface 434 (.pointer (some (ev 2)))])) W):=fun W b=>⟨rfl,X,vs,A,h.below b,Keep.of b,fun _ q=>q,fun _ q=>.inl q,fun _ q=>.inl q⟩
 rw[e1] at NO
 clear h hv hE e1 b1 et
 go_enter Tryz.func23,Tryz.ntmps23
 go_wp2_with fail
 refine NO.out.mono ?_
 rintro r w1 ⟨rfl,hb1⟩
 have M:=L1.out.go hb1
 have m0:=M.c 0 _ rfl;have m1:=M.c 1 _ rfl;have f0:=M.f 0 sI;have f1:=M.f 1 sI;have ml:=M.lt
 have HM:=ah (M.jC (.int .i64 0) (.int .i64 0))
 clear M NO L1
 go_wp2
 have x0:=HM.out.c 0 _ rfl;have x1:=HM.out.c 1 _ rfl
 exact bodyPost_ret (v:=.tuple #[.agg #[.int .i64 0,.int .i64 0],.iface 434 (.pointer (some (ev 2)))]) (by simp[x0,x1,results,Tryz.results23,go_sem]) rfl (FIN.out _ iB)
theorem wY {mn:Int} {O:List (List Int)} {L:List Nd} {v:Nat} {u:Bool} (hO:vV O L.length) (hv:v<L.length):(j4 mn O L v 0 u).2.2.2.2=0:=by
 obtain⟨D,hD,hl,hm,hc⟩:=qG (mn:=mn) (u:=u) (k:=0) (L:=L) (v:=(v:Int)) hO om
 rcases hc with⟨hp,e⟩|⟨j,y,b,hp,j0,j1,hx,hk,hb,e⟩
 ·rw[e]
 ·rw[e]
theorem TkS.rng (h:TkS B w wt pc pz mn lw hi O e X vs A c r Xt vt At ct m s p) (hI:l8 e r.1):0≤s.pg∧s.pg<256:=by
 rw[h.rr] at hI
 have hl:=(aj.1 h.hs).1
 have:=hI.rng (s:=jH s (iO s.T) true) (aB (aL (by simpa using hl)))
 exact⟨this.2.2.1,this.2.2.2⟩
theorem D9 (v:Nat) (u:Bool) (hE:qM B ev w) (h:CS B w pc pz mn lw hi O e X vs A c) (hI:l8 e c) (hB:B≤w.heap.size) (hv:v<c.L.length):
 Calls Tryz.prog 23 #[.pointer (some ⟨pc,0,none⟩),.int .i64 v,.bool u] w (qK B ev pc pz mn lw hi O e X vs A c w (takeC mn O e c v u)):=by
 have hvn: ¬((v:Int)<0∨(c.L.length:Int)≤(v:Int)):=om
 have e1:=hI.e1;have e2:=hI.e2
 have few:=hI.few
 have HIN:=ah (pI (mn:=mn) (v:=(v:Int)) (u:=u) h.z.ord hI)
 have HTC:Hid (takeC mn O e c v u=match jU v c.C c.C.length with
  |some i=>match c.C[i]? with
   |none=>(c,2,(0,0))
   |some s=>(⟨c.L,c.C.set i (jH s (iO s.T) true)⟩,0,mg e s (iO s.T))
  |none=>if (j4 mn O c.L v 0 u).2.1=0 then
    (⟨(j4 mn O c.L v 0 u).1,oP c.C (jH ⟨(j4 mn O c.L v 0 u).2.2.1,(j4 mn O c.L v 0 u).2.2.2.1,iG e⟩ 0 true)⟩,0,((j4 mn O c.L v 0 u).2.2.1,(j4 mn O c.L v 0 u).2.2.2.1*64))
   else(⟨(j4 mn O c.L v 0 u).1,c.C⟩,(j4 mn O c.L v 0 u).2.1,(0,0))):=by
  show _=_
  unfold takeC
  rw[if_neg hvn]
  rfl
 obtain⟨R,hR⟩: ∃R,R=takeC mn O e c v u:=⟨_,rfl⟩
 rw[←hR] at HTC HIN ⊢
 clear hR
 have TZ0:=ah (wY (mn:=mn) (u:=u) h.z.ord hv)
 have b1:Below w.heap.size w (w.alloc (.cells #[.int .i64 0,.int .i64 0] 49)):=iB
 have L1:iy (w.alloc (.cells #[.int .i64 0,.int .i64 0] 49)) w.heap.size [.int .i64 0,.int .i64 0]:=iy.mk_ w [.int .i64 0,.int .i64 0] 49 rfl
 have h1:CS B (w.alloc (.cells #[.int .i64 0,.int .i64 0] 49)) pc pz mn lw hi O e (w.heap.size::X) vs A c:=(h.more (fun x hx=>ak _ hx) (fun y hy=>by
  rcases aC.1 hy with rfl|q
  ·exact .inr (aI _)
  ·exact .inl q)).below b1
 have E1:=hE.go b1
 have NC:Hid (w.heap.size∉cay pc vs A):=fun q=>by have:=(h.ch.lim _ q).2;omega
 have NY:Hid (w.heap.size∉ys c.L):=fun q=>by have:=(h.z.b.lim _ q).2;omega
 obtain⟨W1,hW1⟩: ∃W1,W1=w.alloc (.cells #[.int .i64 0,.int .i64 0] 49):=⟨_,rfl⟩
 rw[←hW1] at b1 L1 h1 E1
 obtain⟨qv,kv,evs,kv1,kv2,hrow⟩:=h1.ch.form
 subst evs
 have NO:=ah (cnode_ok h1 v hv)
 have rR:=ah hrow
 have H1:=ah h1;have HL1:=ah L1;have HE1:=ah E1;have HB1:=ah b1;have HI:=ah hI
 have z01:w.heap.size<W1.heap.size:=L1.lt
 clear h hE L1 h1 E1 b1 hrow hI hvn
 go_enter Tryz.func23,Tryz.ntmps23
 go_wp2_with fail
 rw[←hW1]
 clear hW1
 refine NO.out.mono ?_
 rintro r w1 ⟨rfl,hb1⟩
 have HC1:=ah (H1.out.below hb1)
 have c0:=HC1.out.ch.c.c 0 _ rfl;have c1:=HC1.out.ch.c.c 1 _ rfl;have c2:=HC1.out.ch.c.c 2 _ rfl;have cl:=HC1.out.ch.c.lt
 have HLR:=ah (HL1.out.go hb1)
 have HE2:=ah (HE1.out.go hb1)
 have HBW:=ah (show Below w.heap.size w w1 from HB1.out.trans (hb1.mono om))
 have HROW1:Hid (∀(j:Nat) (p:Nat×Nat),A[j]?=some p→∃g,qv=some ⟨g,0,none⟩∧g<w1.heap.size∧w1.cell? ⟨g,j,none⟩=some (.pointer (some ⟨p.1,0,none⟩))):=fun j p hj=>by
  obtain⟨g,a1,a2,a3⟩:=rR.out j p hj
  exact⟨g,a1,aF a2 hb1.size,(hb1.cell (p:=⟨g,j,none⟩) a2).trans a3⟩
 have z11:=hb1.size
 obtain⟨n,hn⟩: ∃n,n=c.C.length:=⟨_,rfl⟩
 have EN:=ah hn
 rw[←hn] at c2 few kv1
 unfold maxLen at kv2
 clear NO rR H1 HL1 HE1 HB1 hb1 hn
 go_wp2_with fail
 go_loopw [9,27] (fun bv iv wr=>∃i:Nat,i≤n∧iv= .int .i64 i∧bv=wu A (jU v c.C i)∧Below w1.heap.size w1 wr) (fun _ iv _=>n-(intOf iv).toNat)
 case atStart=>exact⟨0,om,by go_num,rfl,iB⟩
 case round=>
  obtain⟨i,hile,rfl,hbv,hbel⟩:=hrel
  have BW:Hid (∀W,Below wr.heap.size wr W→Below w1.heap.size w1 W):=fun W b=>hbel.trans (b.mono hbel.size)
  have HCR:=ah (HC1.out.below hbel)
  by_cases hin:i<n
  ·obtain⟨s,hs⟩: ∃s,c.C[i]?=some s:=⟨c.C[i]'(by rw[←EN.out];exact hin),au _⟩
   obtain⟨p,hp,hsl,_⟩:=HCR.out.ch.at hs
   obtain⟨g,rfl,hg,hc0⟩:=HROW1.out i p hp
   have ck:wr.cell? ⟨g,i,none⟩=some (.pointer (some ⟨p.1,0,none⟩)):=(hbel.cell (p:=⟨g,i,none⟩) hg).trans hc0
   have gl:g<wr.heap.size:=aF hg hbel.size
   have hik:i<kv:=om
   obtain⟨d0,d1,_,d3,d4,dl,_⟩:=hsl.cells
   have BV:=ah (kG hp)
   clear hc0 hsl
   by_cases h1:s.nd=v
   ·have b1:(s.nd==(v:Int))=true:=by simp[h1]
    have b1':decide (s.nd=(v:Int))=true:=by simp[h1]
    by_cases h2:iD s<s.T.length
    ·have b2:decide (iD s<s.T.length)=true:=decide_eq_true h2
     have b2':decide ((iD s:Int)<(s.T.length:Int))=true:=decide_eq_true om
     cases hb:jU v c.C i with
     |none=>
      have EQ:=ah (ze hs ⟨h1,h2⟩ hb)
      rw[hb] at hbv
      simp only[wu] at hbv
      subst hbv
      clear hs hp h1 hb
      generalize iD s=a at*
      generalize s.T.length=l at*
      go_wp2_with fail
      go_quiet (fail)
      go_wp2
      go_round
      case rel=>exact⟨i+1,om,by go_num,(by rw[EQ.out,BV.out]),BW.out _ iB⟩
      case measure=>simp[intOf];omega
     |some m=>
      obtain⟨_,z,hz,_,_⟩:=jO hb
      obtain⟨y,hy,hyl,_⟩:=HCR.out.ch.at hz
      obtain⟨x0,x1,_,x3,x4,xl,_⟩:=hyl.cells
      have BY:=ah (kG hy)
      have EQ:=ah (wX hs ⟨h1,h2⟩ hb hz)
      rw[hb,kG hy] at hbv
      subst hbv
      by_cases h3:iD z<iD s
      ·have b3:decide (iD z<iD s)=true:=decide_eq_true h3
       have b3':decide ((iD z:Int)<(iD s:Int))=true:=decide_eq_true om
       have EQ2:=ah (show jU v c.C (i+1)=some i by rw[EQ.out,if_pos h3])
       clear hs hp h1 hb hz hy hyl EQ
       generalize iD s=a at*
       generalize s.T.length=l at*
       generalize iD z=a' at*
       go_wp2_with fail
       go_quiet (fail)
       go_wp2
       go_round
       case rel=>exact⟨i+1,om,by go_num,(by rw[EQ2.out,BV.out]),BW.out _ iB⟩
       case measure=>simp[intOf];omega
      ·have b3:decide (iD z<iD s)=false:=decide_eq_false h3
       have b3':decide ((iD z:Int)<(iD s:Int))=false:=decide_eq_false om
       have EQ2:=ah (show jU v c.C (i+1)=some m by rw[EQ.out,if_neg h3])
       clear hs hp h1 hb hz hy hyl EQ h3
       generalize iD s=a at*
       generalize s.T.length=l at*
       generalize iD z=a' at*
       go_wp2_with fail
       go_quiet (fail)
       go_wp2
       go_round
       case rel=>exact⟨i+1,om,by go_num,(by rw[EQ2.out,BY.out]),BW.out _ iB⟩
       case measure=>simp[intOf];omega
    ·have b2:decide (iD s<s.T.length)=false:=decide_eq_false h2
     have b2':decide ((iD s:Int)<(s.T.length:Int))=false:=decide_eq_false om
     have EQ:=ah (tZ (v:=(v:Int)) hs (fun q=>h2 q.2))
     have HBV:=ah hbv
     clear hs hp h1 h2 hbv
     generalize iD s=a at*
     generalize s.T.length=l at*
     go_wp2_with fail
     go_quiet (fail)
     go_wp2
     go_round
     case rel=>exact⟨i+1,om,by go_num,(by rw[EQ.out];exact HBV.out),BW.out _ iB⟩
     case measure=>simp[intOf];omega
   ·have b1:(s.nd==(v:Int))=false:=by simp[h1]
    have b1':decide (s.nd=(v:Int))=false:=by simp[h1]
    have EQ:=ah (tZ (v:=(v:Int)) hs (fun q=>h1 q.1))
    have HBV:=ah hbv
    clear hs hp h1 hbv
    go_wp2_with fail
    go_quiet (fail)
    go_wp2
    go_round
    case rel=>exact⟨i+1,om,by go_num,(by rw[EQ.out];exact HBV.out),BW.out _ iB⟩
    case measure=>simp[intOf];omega
  ·obtain rfl:i=n:=by omega
   have HKR:=ah (Keep.of (S:=cay pc (.slice qv c.C.length kv) A++ys c.L) (show Below w.heap.size w wr from HBW.out.trans (hbel.mono (by have:=HBW.out.size;omega))))
   have HLW:=ah (HLR.out.go hbel)
   cases hb:jU v c.C i with
   |some m=>
    obtain⟨_,s,hs,hnd,hm⟩:=jO hb
    obtain⟨p,hp,_,_⟩:=HCR.out.ch.at hs
    rw[hb,kG hp] at hbv
    subst hbv
    have rr:R=(⟨c.L,c.C.set m (jH s (iO s.T) true)⟩,0,mg e s (iO s.T)):=by
     have:=HTC.out;rw[←EN.out,hb] at this;simpa[hs] using this
    have Fz:s.T.length≤64:=by rw[HI.out.len s (HI.out.get hs)];unfold iM;exact bU _ _
    have TS:=ah (show TkS B w wr pc pz mn lw hi O e X (.slice qv c.C.length kv) A c R (w.heap.size::X) (.slice qv c.C.length kv) A c m s p from⟨HCR.out,hs,hp,hm,Fz,rr,HKR.out,fun x hx=>ak _ hx,fun x hx=>by
     rcases aC.1 hx with rfl|q
     ·exact .inr (aI _)
     ·exact .inl q,fun y hy=>.inl hy,aD ..,NC.out,NY.out,HLW.out⟩)
    clear hb hs hp rr hm hnd
    obtain⟨wt,ewt⟩: ∃wt,wt=wr:=⟨_,rfl⟩
    subst ewt
    obtain⟨f1,f2,_⟩:=jr TS.out.hm
    have SLB:=TS.out.cs.ch.sl m p s TS.out.hp TS.out.hs
    obtain⟨d0,d1,_,d3,d4,dl,dl2⟩:=SLB.cells
    obtain⟨k,hk⟩: ∃k,k=iO s.T:=⟨_,rfl⟩
    rw[←hk] at f1 f2
    have l64:=TS.out.hl
    have hml:=kU s.T
    have IX:=ah (wU (X:=[]) s.T p.2 k wt SLB.2 hk.symm TS.out.hm TS.out.hl)
    have fz:wt.frozen? ⟨p.2,k,none⟩=false:=SLB.2.f k (by rw[jJ];omega)
    have fz4:wt.frozen? ⟨p.1,4,none⟩=false:=SLB.1.f 4 (by simp[jV])
    have ck:wt.cell? ⟨p.2,k,none⟩=some (.bool false):=SLB.2.c k _ (jk f2)
    have ne12: ¬(p.1=p.2):=(TS.out.cs.slab TS.out.hp).2.2
    have ne21: ¬(p.2=p.1):=fun q=>ne12 q.symm
    have HK:=ah hk
    have hms:iD s≤64:=by have:iD s=jG s.T:=rfl;omega
    have HMS:((iD (jH s k true):Nat):Int)=(iD s:Int)+1:=by
     have h0:=pE f2 true
     have h1:iD (jH s k true)=jG (s.T.set k true):=rfl
     have h2:iD s=jG s.T:=rfl
     simp at h0
     omega
    have HSP:=ah (nQ.put (k:=k) true SLB ne12 f1)
    rw[HMS] at HSP
    obtain⟨g0,g1⟩:=TS.out.rng HIN.out
    have ke0:(0:Int)≤(k:Int)*(e:Int):=dL om om
    have ke1:(k:Int)*(e:Int)≤4096:=by
     have:=dB (show k≤64 by omega) e2
     have h2:((k*e:Nat):Int)≤((64*64:Nat):Int):=om
     simpa using h2
    have ro:obV R.2.2= .agg #[.int .i64 s.nd,.int .i64 (s.pg*64+(k:Int)*(e:Int))]:=by rw[TS.out.rr,←HK.out];rfl
    have RO:=ah ro
    have HMS':=ah HMS
    clear SLB hk f2 HMS ro
    go_wp2_with fail
    refine IX.out.mono ?_
    rintro r2 w2 ⟨rfl,rfl⟩
    go_wp2_with fail
    obtain⟨W,hW⟩: ∃W,W=(wt.setCell ⟨p.2,k,none⟩ (.bool true)).setCell ⟨p.1,4,none⟩ (.int .i64 ((iD s:Int)+1)):=⟨_,rfl⟩
    rw[←hW]
    have hW':=ah (show W=(wt.setCell ⟨p.2,iO s.T,none⟩ (.bool true)).setCell ⟨p.1,4,none⟩ (.int .i64 (iD (jH s (iO s.T) true))) by rw[←HK.out,HMS'.out];exact hW)
    have SP:=HSP.out
    rw[←hW] at SP
    obtain⟨a0,a1,_,_,_,al,_⟩:=SP.1.cells
    have LC:=(TS.out.cs.use TS.out.hp SP.1 SP.2).ch.c
    have q1:=LC.c 1 _ rfl;have ql:=LC.lt
    have LRW:iy W w.heap.size [.int .i64 0,.int .i64 0]:=TS.out.lr.keep SP.2 (fun q=>by
     have m:=TS.out.cs.slab TS.out.hp
     simp at q
     rcases q with q|q
     ·exact TS.out.t2 (q▸m.1)
     ·exact TS.out.t2 (q▸m.2.1))
    have v0:=LRW.c 0 _ rfl;have v1:=LRW.c 1 _ rfl;have vf0:=LRW.f 0 sI;have vf1:=LRW.f 1 sI;have vl:=LRW.lt;have n0:=LRW.jF.c 0 _ rfl;have n1:=LRW.jF.c 1 _ rfl;have nf0:=LRW.jF.f 0 sI;have nf1:=LRW.jF.f 1 sI
    have HRW:=ah (LRW.jC (.int .i64 s.nd) (.int .i64 (s.pg*64+(k:Int)*(e:Int))))
    have HRX:=ah (LRW.store 0 (.int .i64 s.nd) sI)
    clear d0 d1 d3 d4 ck fz fz4 hW SP LC LRW HSP IX c0 c1 c2 cl
    simp only[jH] at a0 a1
    refine jR 20 kR kR ?_
    simp only[aV,bB,aS,bq]
    repeat still_step
    refine wpStill_nil ?_
    go_wp2
    have x0:=HRW.out.c 0 _ rfl;have x1:=HRW.out.c 1 _ rfl;have y0:=HRX.out.c 0 _ rfl
    refine bodyPost_ret (v:=.tuple #[.agg #[.int .i64 s.nd,.int .i64 (s.pg*64+(k:Int)*(e:Int))],.nilIface]) ?_ rfl ?_
    ·simp[x0,x1,y0,results,Tryz.results23,go_sem]
    ·rw[←RO.out]
     exact TS.out.fin hW'.out (((Keep.refl _ _).setCell (p:=⟨w.heap.size,0,none⟩) (.inl sI) _).setCell (p:=⟨w.heap.size,1,none⟩) (.inl sI) _).drew
   |none=>
    rw[hb] at hbv
    simp only[wu] at hbv
    subst hbv
    obtain⟨L',q,nd,pg,k,hz⟩: ∃L' q nd pg k,j4 mn O c.L v 0 u=(L',q,(nd,pg,k)):=⟨_,_,_,_,_,rfl⟩
    have rr:=HTC.out
    rw[←EN.out,hb] at rr
    simp only[hz] at rr
    cases q with
    |succ q=>
     rw[if_neg om] at rr
     have GN:=ah (cgrow_no (u:=u) (v:=(v:Int)) (HE2.out.go hbel) HCR.out L' q nd pg k hz)
     obtain⟨vv,hvv⟩: ∃vv,vv=ev (q+1):=⟨_,rfl⟩
     have e1':jB ev (q+1)= .iface 434 (.pointer (some vv)):=by rw[hvv];rfl
     have FIN:Hid (∀W W',BU B ev pc pz mn lw hi O e (w.heap.size::X) (.slice qv c.C.length kv) A c wr L' (q+1) (.returned (.tuple #[.pointer none,.iface 434 (.pointer (some vv))])) W→Keep [w.heap.size] W W'→qK B ev pc pz mn lw hi O e X (.slice qv c.C.length kv) A c w R (.returned (.tuple #[.agg #[.int .i64 0,.int .i64 0],.iface 434 (.pointer (some vv))])) W'):=fun W W' hG hK=>by
      obtain⟨_,g2,g3⟩:=hG
      refine⟨by rw[rr,←e1'];rfl,w.heap.size::X,_,A,?_,?_,fun x hx=>ak _ hx,fun x hx=> ?_,fun y hy=>.inl hy⟩
      ·rw[rr]
       exact g2.keep hK (fun x hx=>by
        simp at hx;subst hx
        refine⟨NC.out,.inl ⟨aD ..,?_⟩⟩
        have sz:=lZ mn O c.L v 0 u
        rw[hz] at sz
        show w.heap.size∉ys L'
        rw[sz.ys];exact NY.out)
      ·exact(HKR.out.then (g3.mono (fun y q=>aA _ q))).trans hK (fun x hx=>by simp at hx;subst hx;exact .inr (aI _))
      ·rcases aC.1 hx with rfl|q
       ·exact .inr (aI _)
       ·exact .inl q
     have GN2:Hid (Calls Tryz.prog 116 #[.pointer (some ⟨pc,0,none⟩),.int .i64 v,.bool u] wr fun r' w'=>r'= .returned (.tuple #[.pointer none,.iface 434 (.pointer (some vv))])∧BU B ev pc pz mn lw hi O e (w.heap.size::X) (.slice qv c.C.length kv) A c wr L' (q+1) r' w'):=GN.out.mono fun r' w' hg=>⟨by rw[←e1'];exact hg.1,hg⟩
     have LRK:Hid (∀W,Keep (ys c.L) wr W→iy W w.heap.size [.int .i64 0,.int .i64 0]):=fun W k=>HLW.out.keep k NY.out
     clear GN hz rr e1' hvv hb
     go_wp2_with fail
     refine GN2.out.mono ?_
     rintro r' w3 ⟨rfl,hG⟩
     have M:=LRK.out w3 hG.2.2
     have m0:=M.c 0 _ rfl;have m1:=M.c 1 _ rfl;have f0:=M.f 0 sI;have f1:=M.f 1 sI;have ml:=M.lt
     have HM:=ah (M.jC (.int .i64 0) (.int .i64 0))
     have HG:=ah hG
     clear M hG
     go_wp2
     have x0:=HM.out.c 0 _ rfl;have x1:=HM.out.c 1 _ rfl
     exact bodyPost_ret (v:=.tuple #[.agg #[.int .i64 0,.int .i64 0],.iface 434 (.pointer (some vv))]) (by simp[x0,x1,results,Tryz.results23,go_sem]) rfl (FIN.out _ _ HG.out (((Keep.refl _ _).setCell (p:=⟨w.heap.size,0,none⟩) (.inl sI) _).setCell (p:=⟨w.heap.size,1,none⟩) (.inl sI) _))
    |zero=>
     rw[if_pos rfl] at rr
     have hk:=TZ0.out
     rw[hz] at hk
     simp only at hk
     subst hk
     have GY:=ah (Fw (u:=u) (v:=(v:Int)) (HE2.out.go hbel) HCR.out HI.out (by have:=HBW.out.size;have:=hbel.size;omega) L' nd pg hz)
     have MKT:Hid (∀p X' v' A' W,CS B W pc pz mn lw hi O e X' v' A' ⟨L',oP c.C ⟨nd,pg,iG e⟩⟩→A'[oK nd pg c.C]?=some p→Keep (cay pc (.slice qv c.C.length kv) A++ys c.L) wr W→(∀x∈w.heap.size::X,x∈X')→(∀x∈X',x∈w.heap.size::X∨wr.heap.size≤x)→(∀y∈cay pc v' A',y∈cay pc (.slice qv c.C.length kv) A∨wr.heap.size≤y)→TkS B w W pc pz mn lw hi O e X (.slice qv c.C.length kv) A c R X' v' A' ⟨L',oP c.C ⟨nd,pg,iG e⟩⟩ (oK nd pg c.C) ⟨nd,pg,iG e⟩ p):=fun p X' v' A' W g1 g2 g3 g4 g5 g6=>by
      have zwr:w.heap.size<wr.heap.size:=HLW.out.lt
      have f0:=uT e1 e2
      have nl:(iG e).length=iM e:=by unfold iG;simp
      have sz:=lZ mn O c.L v 0 u
      rw[hz] at sz
      refine⟨g1,ins_at c.C ⟨nd,pg,iG e⟩,g2,?_,?_,?_,HKR.out.then g3,fun x hx=>g4 x (ak _ hx),fun x hx=> ?_,fun y hy=> ?_,g4 _ (aD ..),fun q=> ?_,?_,HLW.out.keep g3 (fun q=> ?_)⟩
      ·show jG (iG e)<(iG e).length
       rw[pV,nl];exact pG e1 e2
      ·show(iG e).length≤64
       rw[nl];unfold iM;exact bU _ _
      ·rw[rr]
       have h0:iO (⟨nd,pg,iG e⟩:Sl).T=0:=f0
       rw[h0]
       have h1:=Fx c.C ⟨nd,pg,iG e⟩ (jH ⟨nd,pg,iG e⟩ 0 true) rfl rfl
       show _=((⟨L',(oP c.C ⟨nd,pg,iG e⟩).set (oK nd pg c.C) (jH ⟨nd,pg,iG e⟩ 0 true)⟩,0,mg e ⟨nd,pg,iG e⟩ 0):Ca×Nat×Ob)
       rw[show(oP c.C ⟨nd,pg,iG e⟩).set (oK nd pg c.C) (jH ⟨nd,pg,iG e⟩ 0 true)=oP c.C (jH ⟨nd,pg,iG e⟩ 0 true) from h1]
       unfold mg
       simp
      ·rcases g5 x hx with q|q
       ·rcases aC.1 q with rfl|q
        ·exact .inr (aI _)
        ·exact .inl q
       ·exact .inr om
      ·exact(g6 y hy).imp id (fun q=>om)
      ·rcases g6 _ q with t|t
       ·exact NC.out t
       ·omega
      ·show w.heap.size∉ys L'
       rw[sz.ys];exact NY.out
      ·rcases aG.1 q with t|t
       ·exact NC.out t
       ·exact NY.out t
     clear hz rr hb TZ0 HTC
     go_wp2_with fail
     refine GY.out.mono ?_
     rintro r' wt ⟨p,X',v',A',rfl,g1,g2,g3,g4,g5,g6⟩
     obtain⟨m,hm⟩: ∃m,m=oK nd pg c.C:=⟨_,rfl⟩
     obtain⟨s,hs⟩: ∃s:Sl,s=⟨nd,pg,iG e⟩:=⟨_,rfl⟩
     have TS:=MKT.out p X' v' A' wt g1 g2 g3 g4 g5 g6
     rw[←hm,←hs] at TS
     obtain⟨ct,hct⟩: ∃ct:Ca,ct=⟨L',oP c.C s⟩:=⟨_,rfl⟩
     rw[←hct] at TS
     have TS:=ah TS
     clear g1 g2 g3 g4 g5 g6 MKT GY hm hs hct
     obtain⟨f1,f2,_⟩:=jr TS.out.hm
     have SLB:=TS.out.cs.ch.sl m p s TS.out.hp TS.out.hs
     obtain⟨d0,d1,_,d3,d4,dl,dl2⟩:=SLB.cells
     obtain⟨k,hk⟩: ∃k,k=iO s.T:=⟨_,rfl⟩
     rw[←hk] at f1 f2
     have l64:=TS.out.hl
     have hml:=kU s.T
     have IX:=ah (wU (X:=[]) s.T p.2 k wt SLB.2 hk.symm TS.out.hm TS.out.hl)
     have fz:wt.frozen? ⟨p.2,k,none⟩=false:=SLB.2.f k (by rw[jJ];omega)
     have fz4:wt.frozen? ⟨p.1,4,none⟩=false:=SLB.1.f 4 (by simp[jV])
     have ck:wt.cell? ⟨p.2,k,none⟩=some (.bool false):=SLB.2.c k _ (jk f2)
     have ne12: ¬(p.1=p.2):=(TS.out.cs.slab TS.out.hp).2.2
     have ne21: ¬(p.2=p.1):=fun q=>ne12 q.symm
     have HK:=ah hk
     have hms:iD s≤64:=by have:iD s=jG s.T:=rfl;omega
     have HMS:((iD (jH s k true):Nat):Int)=(iD s:Int)+1:=by
      have h0:=pE f2 true
      have h1:iD (jH s k true)=jG (s.T.set k true):=rfl
      have h2:iD s=jG s.T:=rfl
      simp at h0
      omega
     have HSP:=ah (nQ.put (k:=k) true SLB ne12 f1)
     rw[HMS] at HSP
     obtain⟨g0,g1⟩:=TS.out.rng HIN.out
     have ke0:(0:Int)≤(k:Int)*(e:Int):=dL om om
     have ke1:(k:Int)*(e:Int)≤4096:=by
      have:=dB (show k≤64 by omega) e2
      have h2:((k*e:Nat):Int)≤((64*64:Nat):Int):=om
      simpa using h2
     have ro:obV R.2.2= .agg #[.int .i64 s.nd,.int .i64 (s.pg*64+(k:Int)*(e:Int))]:=by rw[TS.out.rr,←HK.out];rfl
     have RO:=ah ro
     have HMS':=ah HMS
     clear SLB hk f2 HMS ro
     go_wp2_with fail
     refine IX.out.mono ?_
     rintro r2 w2 ⟨rfl,rfl⟩
     go_wp2_with fail
     obtain⟨W,hW⟩: ∃W,W=(wt.setCell ⟨p.2,k,none⟩ (.bool true)).setCell ⟨p.1,4,none⟩ (.int .i64 ((iD s:Int)+1)):=⟨_,rfl⟩
     rw[←hW]
     have hW':=ah (show W=(wt.setCell ⟨p.2,iO s.T,none⟩ (.bool true)).setCell ⟨p.1,4,none⟩ (.int .i64 (iD (jH s (iO s.T) true))) by rw[←HK.out,HMS'.out];exact hW)
     have SP:=HSP.out
     rw[←hW] at SP
     obtain⟨a0,a1,_,_,_,al,_⟩:=SP.1.cells
     have LC:=(TS.out.cs.use TS.out.hp SP.1 SP.2).ch.c
     have q1:=LC.c 1 _ rfl;have ql:=LC.lt
     have LRW:iy W w.heap.size [.int .i64 0,.int .i64 0]:=TS.out.lr.keep SP.2 (fun q=>by
      have m:=TS.out.cs.slab TS.out.hp
      simp at q
      rcases q with q|q
      ·exact TS.out.t2 (q▸m.1)
      ·exact TS.out.t2 (q▸m.2.1))
     have v0:=LRW.c 0 _ rfl;have v1:=LRW.c 1 _ rfl;have vf0:=LRW.f 0 sI;have vf1:=LRW.f 1 sI;have vl:=LRW.lt;have n0:=LRW.jF.c 0 _ rfl;have n1:=LRW.jF.c 1 _ rfl;have nf0:=LRW.jF.f 0 sI;have nf1:=LRW.jF.f 1 sI
     have HRW:=ah (LRW.jC (.int .i64 s.nd) (.int .i64 (s.pg*64+(k:Int)*(e:Int))))
     have HRX:=ah (LRW.store 0 (.int .i64 s.nd) sI)
     clear d0 d1 d3 d4 ck fz fz4 hW SP LC LRW HSP IX c0 c1 c2 cl
     simp only[jH] at a0 a1
     refine jR 20 kR kR ?_
     simp only[aV,bB,aS,bq]
     repeat still_step
     refine wpStill_nil ?_
     go_wp2
     have x0:=HRW.out.c 0 _ rfl;have x1:=HRW.out.c 1 _ rfl;have y0:=HRX.out.c 0 _ rfl
     refine bodyPost_ret (v:=.tuple #[.agg #[.int .i64 s.nd,.int .i64 (s.pg*64+(k:Int)*(e:Int))],.nilIface]) ?_ rfl ?_
     ·simp[x0,x1,y0,results,Tryz.results23,go_sem]
     ·rw[←RO.out]
      exact TS.out.fin hW'.out (((Keep.refl _ _).setCell (p:=⟨w.heap.size,0,none⟩) (.inl sI) _).setCell (p:=⟨w.heap.size,1,none⟩) (.inl sI) _).drew
end
end
section
open Go.RowKit
def nS (oa pg:Int):Int:=IntKind.i64.wrap (oa-pg*64)
theorem FC {oa pg:Int} (h1: -9223372036854775808≤oa) (h2:oa≤9223372036854775807) (h3:0≤pg) (h4:pg<256):
 (nS oa pg=oa-pg*64)∨(oa-pg*64<0∧9223372036854000000≤nS oa pg∧nS oa pg≤9223372036854775807):=by
 unfold nS
 rw[IntKind.wrap_i64]
 omega
theorem offW_fit (oa pg:Int): -9223372036854775808≤nS oa pg∧nS oa pg≤9223372036854775807:=by
 unfold nS
 rw[IntKind.wrap_i64]
 omega
def rU (e:Nat) (oa pg:Int):Nat:=(nS oa pg / e).toNat
theorem hasS_W {e:Nat} (e1:1≤e) (e2:e≤64) {n oa:Int} (h1: -9223372036854775808≤oa) (h2:oa≤9223372036854775807) {s:Sl} (h3:0≤s.pg) (h4:s.pg<256) (hl:s.T.length≤64):
 sW e (n,oa) s=(decide (s.nd=n)&&decide (0≤nS oa s.pg)&&decide (nS oa s.pg % e=0)&&decide (rU e oa s.pg<s.T.length)&&(s.T[rU e oa s.pg]?==some true)):=by
 have key:(s.T[rU e oa s.pg]?==some true)=(decide (rU e oa s.pg<s.T.length)&&(s.T[rU e oa s.pg]?==some true)):=by
  by_cases hq:rU e oa s.pg<s.T.length
  ·rw[decide_eq_true hq,Bool.true_and]
  ·rw[decide_eq_false hq,Bool.false_and,gQ om];rfl
 rcases FC h1 h2 h3 h4 with q|⟨q1,q2,q3⟩
 ·have hn:rU e oa s.pg=((oa-s.pg*64) / e).toNat:=by unfold rU;rw[q]
  rw[Bool.and_assoc,←key,q,hn]
  rfl
 ·have big: ¬rU e oa s.pg<s.T.length:=by
   have:nS oa s.pg / e≥9223372036854000000 / 64:=by
    calc (9223372036854000000:Int) / 64≤nS oa s.pg / 64:=by omega
     _≤nS oa s.pg / e:=by
      have he:(0:Int)<e:=om
      rw[Int.le_ediv_iff_mul_le he]
      have h64:nS oa s.pg / 64*(e:Int)≤nS oa s.pg / 64*64:=Int.mul_le_mul_of_nonneg_left om om
      omega
   unfold rU
   omega
  rw[decide_eq_false big]
  unfold sW
  rw[decide_eq_false (show¬(0:Int)≤(n,oa).2-s.pg*64 by simp only;omega)]
  simp
theorem kOf_W {e:Nat} (e1:1≤e) (e2:e≤64) {n oa:Int} (h1: -9223372036854775808≤oa) (h2:oa≤9223372036854775807) {s:Sl} (h3:0≤s.pg) (h4:s.pg<256) (hl:s.T.length≤64) (h:sW e (n,oa) s=true):rU e oa s.pg=kOf e (n,oa) s:=by
 rcases FC h1 h2 h3 h4 with q|⟨q1,q2,q3⟩
 ·unfold rU kOf;rw[q]
 ·unfold sW at h
  simp only[bV,decide_eq_true_eq] at h
  omega
theorem quo_W {e:Nat} (e1:1≤e) {oa pg:Int} (h:0≤nS oa pg):(nS oa pg).tdiv (e:Int)=(rU e oa pg:Int)∧(nS oa pg).tmod (e:Int)=nS oa pg % e:=by
 have hd:0≤nS oa pg / (e:Int):=Int.ediv_nonneg h om
 refine⟨?_,Int.tmod_eq_emod_of_nonneg h⟩
 unfold rU
 rw[dQ h,Int.toNat_of_nonneg hd]
end
section
open Go.RowKit Go.Maps
attribute [local go_sem ↓] aW aX
section
variable {B:Nat} {ev:Nat→Addr} {pc pz e:Nat} {mn lw hi:Int} {O:List (List Int)} {X:List Nat} {vs:Value} {A:SA} {c:Ca} {w:World}
theorem zh (n oa:Int) (h:CS B w pc pz mn lw hi O e X vs A c) (hI:l8 e c) (o1: -9223372036854775808≤oa) (o2:oa≤9223372036854775807) (m:Nat) (hm:m≤c.C.length) (hno: ∀j s,j<m→c.C[j]?=some s→sW e (n,oa) s=false) (res:Value) (k:Nat)
 (hres:(m=c.C.length∧res= .pointer none∧k=0)∨(∃s p,c.C[m]?=some s∧A[m]?=some p∧sW e (n,oa) s=true∧res= .pointer (some ⟨p.1,0,none⟩)∧k=kOf e (n,oa) s)):
 Calls Tryz.prog 119 #[.pointer (some ⟨pc,0,none⟩),.agg #[.int .i64 n,.int .i64 oa]] w fun r w'=>r= .returned (.tuple #[res,.int .i64 k])∧Below w.heap.size w w':=by
 obtain⟨qv,kv,evs,kv1,kv2,hrow⟩:=h.ch.form
 subst evs
 have e1:=hI.e1;have e2:=hI.e2
 have few:=hI.few
 have HIN:=ah hI
 have b0:Below w.heap.size w (w.alloc (.cells #[.int .i64 n,.int .i64 oa] 49)):=iB
 have HL:=ah (show iy (w.alloc (.cells #[.int .i64 n,.int .i64 oa] 49)) w.heap.size [.int .i64 n,.int .i64 oa] from iy.mk_ w [.int .i64 n,.int .i64 oa] 49 rfl)
 have rR:=ah hrow;have HC:=ah h.ch;have HB0:=ah b0
 have FD:=ah hno;have zm:=ah hres
 have c1:=h.ch.c.c 1 _ rfl;have c2:=h.ch.c.c 2 _ rfl;have cl:=h.ch.c.lt
 obtain⟨nn,hnn⟩: ∃nn,nn=c.C.length:=⟨_,rfl⟩
 have EN:=ah hnn
 rw[←hnn] at c2 few kv1 hm
 unfold maxLen at kv2
 have en0: ¬((e:Int)=0):=om
 have en1: ¬(e=0):=om
 clear h hI hrow hnn b0 hno hres
 go_enter Tryz.func119,Tryz.ntmps119
 go_wp2_with fail
 go_loopw [14] (fun iv wr=>∃i:Nat,i≤m∧iv= .int .i64 i∧Below w.heap.size (w.alloc (.cells #[.int .i64 n,.int .i64 oa] 49)) wr∧Below w.heap.size w wr∧Hid (iy wr w.heap.size [.int .i64 n,.int .i64 oa])) (fun iv _=>nn-(intOf iv).toNat)
 case atStart=>exact⟨0,om,by go_num,aJ _ _,HB0.out,HL⟩
 case round=>
  obtain⟨i,hile,rfl,hbel0,hbel,HLr⟩:=hrel
  have BW:Hid (∀W,Below wr.heap.size wr W→Below w.heap.size (w.alloc (.cells #[.int .i64 n,.int .i64 oa] 49)) W∧Below w.heap.size w W∧Hid (iy W w.heap.size [.int .i64 n,.int .i64 oa])):=fun W b=>⟨hbel0.trans (b.mono hbel.size),hbel.trans (b.mono hbel.size),HLr.out.go b⟩
  have m0:=HLr.out.c 0 _ rfl;have m1:=HLr.out.c 1 _ rfl;have ml:=HLr.out.lt
  have g1:wr.cell? ⟨pc,1,none⟩=some (.int .i64 e):=(hbel.cell (p:=⟨pc,1,none⟩) cl).trans c1
  have gl0:pc<wr.heap.size:=aF cl hbel.size
  by_cases hin:i<nn
  ·obtain⟨s,hs⟩: ∃s,c.C[i]?=some s:=⟨c.C[i]'(by rw[←EN.out];exact hin),au _⟩
   obtain⟨p,hp,hsl,_⟩:=(HC.out.below hbel).at hs
   obtain⟨g,rfl,hg,hc0⟩:=rR.out i p hp
   have ck:wr.cell? ⟨g,i,none⟩=some (.pointer (some ⟨p.1,0,none⟩)):=(hbel.cell (p:=⟨g,i,none⟩) hg).trans hc0
   have gl:g<wr.heap.size:=aF hg hbel.size
   have hik:i<kv:=om
   obtain⟨d0,d1,_,d3,d4,dl,dl2⟩:=hsl.cells
   have hsm:=aB hs
   obtain⟨r1,r2,r3,r4⟩:=HIN.out.rng hsm
   have Fz:s.T.length≤64:=by rw[HIN.out.len s hsm];unfold iM;exact bU _ _
   have hW:=hasS_W e1 e2 (n:=n) o1 o2 r3 r4 Fz
   obtain⟨f1,f2⟩:=offW_fit oa s.pg
   have qW:=fun h=>quo_W (oa:=oa) (pg:=s.pg) e1 h
   have KW:=ah (kOf_W (n:=n) e1 e2 o1 o2 r3 r4 Fz)
   have TB:=ah (fun(j:Nat) (b:Bool) (hj:s.T[j]?=some b)=>hsl.2.c j _ (jk hj))
   have hd:wrap64 (oa-s.pg*64)=nS oa s.pg:=by unfold nS;rw[IntWalk.i64_left]
   have qb:nS oa s.pg / (e:Int)≤9223372036854775807∨nS oa s.pg<0:=by
    by_cases q:nS oa s.pg<0
    ·exact .inr q
    ·left
     have:nS oa s.pg / (e:Int)≤nS oa s.pg:=Int.ediv_le_self _ om
     omega
   have NO:sW e (n,oa) s=false→i+1≤m:=fun hf=>by
    rcases dH i m with q|q
    ·exact q
    ·exfalso
     obtain rfl:i=m:=om
     rcases zm.out with⟨t,_⟩|⟨s',p',t1,_,t2,_⟩
     ·have:=EN.out;omega
     ·rw[hs] at t1;obtain rfl:=aH t1
      rw[hf] at t2;cases t2
   have YES:sW e (n,oa) s=true→res= .pointer (some ⟨p.1,0,none⟩)∧k=kOf e (n,oa) s:=fun ht=>by
    rcases dH i m with q|q
    ·have:=FD.out i s q hs
     rw[ht] at this;cases this
    ·obtain rfl:i=m:=by omega
     rcases zm.out with⟨t,_⟩|⟨s',p',t1,t3,_,t4,t5⟩
     ·have:=EN.out;omega
     ·rw[hs] at t1;obtain rfl:=aH t1
      rw[hp] at t3;obtain rfl:=aH t3
      exact⟨t4,t5⟩
   clear hc0
   by_cases h1:s.nd=n
   ·have b1:(s.nd==n)=true:=by simp[h1]
    have b1':decide (s.nd=n)=true:=by simp[h1]
    by_cases h2:0≤nS oa s.pg
    ·have b2:decide (0≤nS oa s.pg)=true:=decide_eq_true h2
     obtain⟨v1,v2⟩:=qW h2
     have m1':0≤nS oa s.pg % (e:Int):=Int.emod_nonneg _ om
     have m2':nS oa s.pg % (e:Int)<e:=Int.emod_lt_of_pos _ om
     have qn:(rU e oa s.pg:Int)=nS oa s.pg / (e:Int):=by rw[←v1,dQ h2]
     have nb:(rU e oa s.pg:Int)≤9223372036854775807:=by rw[qn];omega
     have qn':=qn.symm
     clear qn
     have hwq:IntKind.i64.wrap ((rU e oa s.pg:Nat):Int)=(rU e oa s.pg:Int):=aP _ om
     by_cases h3:nS oa s.pg % (e:Int)=0
     ·have b3:decide (nS oa s.pg % (e:Int)=0)=true:=decide_eq_true h3
      by_cases h4:rU e oa s.pg<s.T.length
      ·have b4:decide (rU e oa s.pg<s.T.length)=true:=decide_eq_true h4
       have b4':decide ((rU e oa s.pg:Int)<(s.T.length:Int))=true:=decide_eq_true om
       obtain⟨bt,hbt⟩: ∃bt,s.T[rU e oa s.pg]?=some bt:=⟨s.T[rU e oa s.pg],au h4⟩
       have ct:=TB.out _ _ hbt
       have hW5:sW e (n,oa) s=bt:=by rw[hW,b1',b2,b3,b4,hbt];cases bt<;>rfl
       cases bt with
       |true=>
        obtain⟨y1,y2⟩:=YES hW5
        have y3:=KW.out hW5
        rw[←y3] at y2
        clear y3
        clear hW NO YES KW qW hs hp hsl hbt qb FD zm hsm
        generalize hdd:nS oa s.pg=d at*
        generalize rU e oa s.pg=q at*
        generalize d % (e:Int)=rr at*
        generalize s.T.length=l at*
        subst y1 y2
        go_wp2_with fail
        go_quiet (fail)
        go_wp2_with fail
        go_quiet (fail)
        go_wp2_with fail
        go_quiet (fail)
        go_wp2
        go_ret2
        exact⟨rfl,(BW.out _ iB).2.1⟩
       |false=>
        have HNO:=ah (NO hW5)
        clear hW NO YES KW qW hbt qb FD zm hsm
        generalize hdd:nS oa s.pg=d at*
        generalize rU e oa s.pg=q at*
        generalize d % (e:Int)=rr at*
        generalize s.T.length=l at*
        clear hs hp hsl
        go_wp2_with fail
        go_quiet (fail)
        go_wp2_with fail
        go_quiet (fail)
        go_wp2
        go_round
        case rel=>exact⟨i+1,HNO.out,by go_num,BW.out _ iB⟩
        case measure=>simp[intOf];omega
      ·have b4:decide (rU e oa s.pg<s.T.length)=false:=decide_eq_false h4
       have b4':decide ((rU e oa s.pg:Int)<(s.T.length:Int))=false:=decide_eq_false om
       have HNO:=ah (NO (by rw[hW,b4];simp))
       clear hW NO YES KW qW qb FD zm hsm
       generalize hdd:nS oa s.pg=d at*
       generalize rU e oa s.pg=q at*
       generalize d % (e:Int)=rr at*
       generalize s.T.length=l at*
       clear hs hp hsl
       go_wp2_with fail
       go_quiet (fail)
       go_wp2_with fail
       go_quiet (fail)
       go_wp2
       go_round
       case rel=>exact⟨i+1,HNO.out,by go_num,BW.out _ iB⟩
       case measure=>simp[intOf];omega
     ·have b3:decide (nS oa s.pg % (e:Int)=0)=false:=decide_eq_false h3
      have b3':(nS oa s.pg % (e:Int)==0)=false:=by simpa using h3
      have HNO:=ah (NO (by rw[hW,b3];simp))
      clear hW NO YES KW qW qb FD zm hsm v1 qn' nb hwq
      generalize hdd:nS oa s.pg=d at*
      generalize d % (e:Int)=rr at*
      clear hs hp hsl
      go_wp2_with fail
      go_quiet (fail)
      go_wp2_with fail
      go_quiet (fail)
      go_wp2
      go_round
      case rel=>exact⟨i+1,HNO.out,by go_num,BW.out _ iB⟩
      case measure=>simp[intOf];omega
    ·have b2:decide (0≤nS oa s.pg)=false:=decide_eq_false h2
     have HNO:=ah (NO (by rw[hW,b2];simp))
     clear hW NO YES KW qW qb FD zm hsm
     generalize hdd:nS oa s.pg=d at*
     clear hs hp hsl
     go_wp2_with fail
     go_quiet (fail)
     go_wp2_with fail
     go_quiet (fail)
     go_wp2
     go_round
     case rel=>exact⟨i+1,HNO.out,by go_num,BW.out _ iB⟩
     case measure=>simp[intOf];omega
   ·have b1:(s.nd==n)=false:=by simp[h1]
    have b1':decide (s.nd=n)=false:=by simp[h1]
    have HNO:=ah (NO (by rw[hW,b1'];simp))
    clear hW NO YES KW qW qb FD zm hsm
    generalize hdd:nS oa s.pg=d at*
    clear hs hp hsl
    go_wp2_with fail
    go_quiet (fail)
    go_wp2_with fail
    go_quiet (fail)
    go_wp2
    go_round
    case rel=>exact⟨i+1,HNO.out,by go_num,BW.out _ iB⟩
    case measure=>simp[intOf];omega
  ·have RS:res= .pointer none∧k=0:=by
    rcases zm.out with⟨_,t1,t2⟩|⟨s',p',t1,_⟩
    ·exact⟨t1,t2⟩
    ·have:=(aj.1 t1).1
     have:=EN.out;omega
   obtain⟨rfl,rfl⟩:=RS
   obtain rfl:i=nn:=om
   go_wp2
   go_ret2
   exact⟨rfl,(BW.out _ (aJ _ _)).2.1⟩
theorem zo (n oa:Int) (h:CS B w pc pz mn lw hi O e X vs A c) (hI:l8 e c) (o1: -9223372036854775808≤oa) (o2:oa≤9223372036854775807) {i:Nat} (hf:qH e (n,oa) c.C=some i) {s:Sl} {p:Nat×Nat} (hs:c.C[i]?=some s) (hp:A[i]?=some p):
 Calls Tryz.prog 119 #[.pointer (some ⟨pc,0,none⟩),.agg #[.int .i64 n,.int .i64 oa]] w fun r w'=>r= .returned (.tuple #[.pointer (some ⟨p.1,0,none⟩),.int .i64 (kOf e (n,oa) s)])∧Below w.heap.size w w':=by
 obtain⟨z,hz,hh,hn⟩:=mh hf
 rw[hs] at hz;obtain rfl:=aH hz
 exact zh n oa h hI o1 o2 i (gV (aj.1 hs).1) hn _ _ (.inr ⟨s,p,hs,hp,hh,rfl,rfl⟩)
theorem FE (n oa:Int) (h:CS B w pc pz mn lw hi O e X vs A c) (hI:l8 e c) (o1: -9223372036854775808≤oa) (o2:oa≤9223372036854775807) (hf:qH e (n,oa) c.C=none):
 Calls Tryz.prog 119 #[.pointer (some ⟨pc,0,none⟩),.agg #[.int .i64 n,.int .i64 oa]] w fun r w'=>r= .returned (.tuple #[.pointer none,.int .i64 (0:Nat)])∧Below w.heap.size w w':=
 zh n oa h hI o1 o2 c.C.length (aI _) (fun j s _ hs=>pW hf s (aB hs)) _ _ (.inl ⟨rfl,rfl,rfl⟩)
theorem FH (n oa:Int) (h:CS B w pc pz mn lw hi O e X vs A c) (hI:l8 e c) (o1: -9223372036854775808≤oa) (o2:oa≤9223372036854775807) {i:Nat} (hf:qH e (n,oa) c.C=some i):
 Calls Tryz.prog 25 #[.pointer (some ⟨pc,0,none⟩),.agg #[.int .i64 n,.int .i64 oa]] w fun r w'=>r= .returned .nilIface∧CS B w' pc pz mn lw hi O e X vs A (lJ e c (n,oa)).1∧Keep (cay pc vs A) w w':=by
 obtain⟨s,hs,hh,hn⟩:=mh hf
 have hg:(lJ e c (n,oa)).1=⟨c.L,c.C.set i (jH s (kOf e (n,oa) s) false)⟩:=by unfold lJ;rw[hf];simp only[hs]
 rw[hg]
 obtain⟨p,hp,_,_⟩:=h.ch.at hs
 have b0:Below w.heap.size w (w.alloc (.cells #[.int .i64 n,.int .i64 oa] 49)):=iB
 have FS:=ah (zo n oa (h.below b0) hI o1 o2 hf hs hp)
 obtain⟨k,hk⟩: ∃k,k=kOf e (n,oa) s:=⟨_,rfl⟩
 have kt:=((nC hI.e1).1 hh).1
 rw[←hk] at FS kt ⊢
 have klt:=(aj.1 kt).1
 have Fz:s.T.length≤64:=by rw[hI.len s (aB hs)];unfold iM;exact bU _ _
 have HB0:=ah b0
 have HH:=ah h;have HP:=ah hp;have HS:=ah hs
 have hms:iD s≤64:=bN (kU s.T) Fz
 have hm1:1≤iD s:=EU kt
 have HMS:((iD (jH s k false):Nat):Int)=(iD s:Int)-1:=by
  have h0:=pE kt false
  have h1:iD (jH s k false)=jG (s.T.set k false):=rfl
  have h2:iD s=jG s.T:=rfl
  simp at h0
  omega
 have ne12: ¬(p.1=p.2):=(h.slab hp).2.2
 have ne21: ¬(p.2=p.1):=fun q=>ne12 q.symm
 have HMS':=ah HMS
 have HKT:=ah kt
 clear h hI hf hh hn hg hp hs b0 hk kt HMS
 go_enter Tryz.func25,Tryz.ntmps25
 go_wp2_with fail
 refine FS.out.mono ?_
 rintro r w1 ⟨rfl,hb1⟩
 have B1:=ah (HB0.out.trans (hb1.mono sI))
 have SLB:=(HH.out.below B1.out).ch.sl i p s HP.out HS.out
 obtain⟨d0,d1,_,d3,d4,dl,dl2⟩:=SLB.cells
 have fz:w1.frozen? ⟨p.2,k,none⟩=false:=SLB.2.f k (by rw[jJ];omega)
 have fz4:w1.frozen? ⟨p.1,4,none⟩=false:=SLB.1.f 4 (by simp[jV])
 have ck:w1.cell? ⟨p.2,k,none⟩=some (.bool true):=SLB.2.c k _ (jk HKT.out)
 have HSP:=ah (nQ.put (k:=k) false SLB ne12 klt)
 rw[HMS'.out] at HSP
 clear SLB FS hb1
 go_wp2
 go_ret
 refine⟨rfl,(HH.out.below B1.out).use HP.out HSP.out.1 HSP.out.2,(Keep.of B1.out).then (HSP.out.2.mono fun y hy=> ?_)⟩
 have m:=HH.out.slab HP.out
 simp at hy
 rcases hy with rfl|rfl
 ·exact m.1
 ·exact m.2.1
end
end
end Go.Proofs.YtdcbhlcbiokbeaaGreatDoor
