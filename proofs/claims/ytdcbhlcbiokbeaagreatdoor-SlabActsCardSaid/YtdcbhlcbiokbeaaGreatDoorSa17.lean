/- Lemmas and contracts for the claim's last text: AsC, DPl, DB, DOps, DTake, DTakeA, DLie, DOut, DGive, CZ, Cut2. -/
import Derived.Test.YtdcbhlcbiokbeaaGreatDoorSa01
import Derived.Test.YtdcbhlcbiokbeaaGreatDoorSa11
import Derived.Test.YtdcbhlcbiokbeaaGreatDoorSa13
import Derived.Test.YtdcbhlcbiokbeaaGreatDoorSa15
import Derived.Test.YtdcbhlcbiokbeaaGreatDoorSa16
set_option linter.unusedSimpArgs false
set_option linter.unusedVariables false
set_option maxHeartbeats 16000000
set_option maxRecDepth 100000
namespace Go.Proofs.YtdcbhlcbiokbeaaGreatDoor
section
open Go.RowKit Go.Maps
attribute [local go_sem ↓] bA bB
def RdO (w:World) (v:Value) (l:List Ob):Prop:=∃q k,v= .slice q l.length k∧l.length≤k∧k≤maxLen∧∀(j:Nat) (o:Ob),l[j]?=some o→∃g off,q=some ⟨g,off,none⟩∧g<w.heap.size∧w.cell? ⟨g,off+j*2,none⟩=some (.int .i64 o.1)∧w.cell? ⟨g,off+j*2+1,none⟩=some (.int .i64 o.2)
theorem RdO.below {w w':World} {v:Value} {l:List Ob} (h:RdO w v l) (k:Below w.heap.size w w'):RdO w' v l:=by
 obtain⟨q,c,h1,h2,h3,h4⟩:=h
 refine⟨q,c,h1,h2,h3,fun j o hj=> ?_⟩
 obtain⟨g,off,e1,e2,e3,e4⟩:=h4 j o hj
 exact⟨g,off,e1,aG e2 k.size,(k.cell (p:=⟨g,off+j*2,none⟩) e2).trans e3,(k.cell (p:=⟨g,off+j*2+1,none⟩) e2).trans e4⟩
theorem yH {base:Nat} {w:World} {v:Value} {l:List Ob} (h:w.ownsRow base 49 2 v l.length (lJ l)):RdO w v l:=by
 have ho:=h
 obtain⟨_,h2⟩:=h
 rcases h2 with⟨rfl,h3⟩|⟨g,cap,cur,rfl,hg,hh,hcap,hmax,_⟩
 ·have hl:l=[]:=dS.1 h3
  subst hl
  exact⟨none,0,rfl,aH _,aQ _,fun j o hj=>by simp at hj⟩
 ·refine⟨some ⟨g,0,none⟩,cap,rfl,hcap,hmax,fun j o hj=>⟨g,0,rfl,(ho.lt g rfl).2,?_⟩⟩
  have hlt:j<l.length:=(ak.1 hj).1
  obtain⟨e1,e2⟩:=nY l j o.1 o.2 hj
  rw[bN,ho.cellAt (j*2) om,ho.cellAt (j*2+1) om]
  exact⟨e1,e2⟩
def RdP (w:World) (v:Value) (l:List Pl):Prop:=∃q k,v= .slice q l.length k∧l.length≤k∧k≤maxLen∧∀(j:Nat) (o:Pl),l[j]?=some o→∃g off,q=some ⟨g,off,none⟩∧g<w.heap.size∧w.cell? ⟨g,off+j*3,none⟩=some (.int .i64 o.1)∧w.cell? ⟨g,off+j*3+1,none⟩=some (.int .i64 o.2.1)∧w.cell? ⟨g,off+j*3+2,none⟩=some (.int .i64 o.2.2)
theorem RdP.below {w w':World} {v:Value} {l:List Pl} (h:RdP w v l) (k:Below w.heap.size w w'):RdP w' v l:=by
 obtain⟨q,c,h1,h2,h3,h4⟩:=h
 refine⟨q,c,h1,h2,h3,fun j o hj=> ?_⟩
 obtain⟨g,off,e1,e2,e3,e4,e5⟩:=h4 j o hj
 exact⟨g,off,e1,aG e2 k.size,(k.cell (p:=⟨g,off+j*3,none⟩) e2).trans e3,(k.cell (p:=⟨g,off+j*3+1,none⟩) e2).trans e4,(k.cell (p:=⟨g,off+j*3+2,none⟩) e2).trans e5⟩
theorem A9: ∀(l:List Pl) (j:Nat) (o:Pl),l[j]?=some o→(yB l)[j*3]?=some (.int .i64 o.1)∧(yB l)[j*3+1]?=some (.int .i64 o.2.1)∧(yB l)[j*3+2]?=some (.int .i64 o.2.2)
 |[],j,o,h=>by simp at h
 |a::l,0,o,h=>by simp at h;subst h;simp[yB]
 |a::l,j+1,o,h=>by
  have ih:=A9 l j o (by simpa using h)
  have e:yB (a::l)= .int .i64 a.1:: .int .i64 a.2.1:: .int .i64 a.2.2::yB l:=by simp[yB]
  rw[e,show(j+1)*3=j*3+1+1+1 from om]
  simpa using ih
theorem Eh {base:Nat} {w:World} {v:Value} {l:List Pl} (h:w.ownsRow base 61 3 v l.length (yB l)):RdP w v l:=by
 have ho:=h
 obtain⟨_,h2⟩:=h
 rcases h2 with⟨rfl,h3⟩|⟨g,cap,cur,rfl,hg,hh,hcap,hmax,_⟩
 ·have hl:l=[]:=dS.1 h3
  subst hl
  exact⟨none,0,rfl,aH _,aQ _,fun j o hj=>by simp at hj⟩
 ·refine⟨some ⟨g,0,none⟩,cap,rfl,hcap,hmax,fun j o hj=>⟨g,0,rfl,(ho.lt g rfl).2,?_⟩⟩
  have hlt:j<l.length:=(ak.1 hj).1
  obtain⟨e1,e2,e3⟩:=A9 l j o hj
  rw[bN,ho.cellAt (j*3) om,ho.cellAt (j*3+1) om,ho.cellAt (j*3+2) om]
  exact⟨e1,e2,e3⟩
theorem neqO2 (a k b m:Int) (w:World):(binOp .neq 49 (.agg #[.int .i64 a,.int .i64 k]) (.agg #[.int .i64 b,.int .i64 m])).run Tryz.prog w= .ok (.bool (!(a==b&&k==m))) w:=by
 have u3:=aS
 have a3:=eG
 have z3:=dZ
 have hS:Tryz.prog.underlying 49=some (.struct (Tryz.prog.fieldsOf 49)):=kR
 have hp:Tryz.prog.stoodInHeld 49=false:=kR
 rw[run_neq_struct,show(10000:Nat)=9999+1 from rfl,run_equalIn_agg w 9999 49 _ _ hS hp]
 simp only[Program.fieldsOf,Tryz.underlying49]
 go_simp
 by_cases h1:a=b<;>by_cases h2:k=m<;>simp[h1,h2]
theorem Ei (va vb:Value) (l:List Ob) (w:World) (ha:RdO w va l) (hb:RdO w vb l):
 Calls Tryz.prog 139 #[va,vb] w fun e w'=>e= .returned (.bool true)∧Below w.heap.size w w':=by
 have eb:=neqO2;have gb:=zX
 have HA:=ah ha;have HB:=ah hb
 obtain⟨q,k,rfl,k1,k2,_⟩:=ha
 obtain⟨q',k',rfl,k1',k2',_⟩:=hb
 obtain⟨n,hn⟩: ∃n,n=l.length:=⟨_,rfl⟩
 have HN:=ah hn
 rw[←hn] at k1 k1' HA HB ⊢
 unfold maxLen at k2 k2'
 clear hn
 go_enter Tryz.func139,Tryz.ntmps139
 go_wp2_with fail
 go_loopw [5] (fun i wr=>∃j:Nat,j≤n∧i= .int .i64 j∧Below w.heap.size w wr) (fun i _=>n-(intOf i).toNat)
 case atStart=>exact⟨0,aQ _,rfl,aK _ _⟩
 case round=>
  obtain⟨j,hj,rfl,hbel⟩:=hrel
  by_cases hlt:j<n
  ·obtain⟨o,ho⟩: ∃o,l[j]?=some o:=⟨l[j]'(by rw[←HN.out];exact hlt),au _⟩
   have hA:=HA.out;have hB:=HB.out
   rw[HN.out] at hA hB
   obtain⟨qa,ca,ea,_,_,h4⟩:=(show RdO w _ l from hA).below hbel
   obtain⟨qb,cb,eb',_,_,h5⟩:=(show RdO w _ l from hB).below hbel
   have ea1:=(gu ea).1;have eb1:=(gu eb').1
   clear ea eb'
   obtain⟨g,of,eg,gl,c0,c1⟩:=h4 j o ho
   obtain⟨g',of',eg',gl',c0',c1'⟩:=h5 j o ho
   have e1:=ea1.trans eg;have e2:=eb1.trans eg'
   subst e1 e2
   have hji:(j:Int)<(n:Int):=om
   have hj0:(0:Int)≤(j:Int):=om
   have HBL:=ah hbel
   clear hA hB h4 h5 ea1 eb1 eg eg' ho hbel HA HB
   go_wp2_with fail
   go_quiet (fail)
   go_wp2
   go_round
   case rel=>exact⟨j+1,om,by go_num,HBL.out.trans gI⟩
   case measure=>simp[intOf];omega
  ·go_wp2
   go_ret
   exact⟨rfl,hbel⟩
theorem Ej (va vb:Value) (l:List Pl) (w:World) (ha:RdP w va l) (hb:RdP w vb l):
 Calls Tryz.prog 136 #[va,vb] w fun e w'=>e= .returned (.bool true)∧Below w.heap.size w w':=by
 have eb:=neqP;have gb:=guardP
 have HA:=ah ha;have HB:=ah hb
 obtain⟨q,k,rfl,k1,k2,_⟩:=ha
 obtain⟨q',k',rfl,k1',k2',_⟩:=hb
 obtain⟨n,hn⟩: ∃n,n=l.length:=⟨_,rfl⟩
 have HN:=ah hn
 rw[←hn] at k1 k1' HA HB ⊢
 unfold maxLen at k2 k2'
 clear hn
 go_enter Tryz.func136,Tryz.ntmps136
 go_wp2_with fail
 go_loopw [5] (fun i wr=>∃j:Nat,j≤n∧i= .int .i64 j∧Below w.heap.size w wr) (fun i _=>n-(intOf i).toNat)
 case atStart=>exact⟨0,aQ _,rfl,aK _ _⟩
 case round=>
  obtain⟨j,hj,rfl,hbel⟩:=hrel
  by_cases hlt:j<n
  ·obtain⟨o,ho⟩: ∃o,l[j]?=some o:=⟨l[j]'(by rw[←HN.out];exact hlt),au _⟩
   have hA:=HA.out;have hB:=HB.out
   rw[HN.out] at hA hB
   obtain⟨qa,ca,ea,_,_,h4⟩:=(show RdP w _ l from hA).below hbel
   obtain⟨qb,cb,eb',_,_,h5⟩:=(show RdP w _ l from hB).below hbel
   have ea1:=(gu ea).1;have eb1:=(gu eb').1
   clear ea eb'
   obtain⟨g,of,eg,gl,c0,c1,c2⟩:=h4 j o ho
   obtain⟨g',of',eg',gl',c0',c1',c2'⟩:=h5 j o ho
   have e1:=ea1.trans eg;have e2:=eb1.trans eg'
   subst e1 e2
   have hji:(j:Int)<(n:Int):=om
   have hj0:(0:Int)≤(j:Int):=om
   have HBL:=ah hbel
   clear hA hB h4 h5 ea1 eb1 eg eg' ho hbel HA HB
   go_wp2_with fail
   go_quiet (fail)
   go_wp2
   go_round
   case rel=>exact⟨j+1,om,by go_num,HBL.out.trans gI⟩
   case measure=>simp[intOf];omega
  ·go_wp2
   go_ret
   exact⟨rfl,hbel⟩
section
variable {X Y S M:List Nat} {w w':World} {B pc pz pcm pm gN e:Nat} {mn lw hi:Int} {O:List (List Int)} {v v' vs:Value} {A A' As:SA} {C:List Sl} {c:Ca} {L':List Nd}
theorem Em (h:RC X w pcm pm gN e mn lw hi O M v A c) (hI:jD e c):
 Calls Tryz.prog 138 #[v] w fun r w'=>∃q k,r= .returned (.slice q c.C.length k)∧w'.ownsRow w.heap.size 61 3 (.slice q c.C.length k) c.C.length (yB (jm c.C))∧Below w.heap.size w w':=by
 obtain⟨qv,kv,evs,kv1,kv2,hrow⟩:=h.b.form
 subst evs
 have few:=hI.few
 have qI:=ah hrow;have HC:=ah h.b
 have ALL:Hid (c.C.take c.C.length=c.C):=by show _=_;simp
 obtain⟨nn,hnn⟩: ∃nn,nn=c.C.length:=⟨_,rfl⟩
 have EN:=ah hnn
 rw[←hnn] at few kv1 ALL ⊢
 unfold maxLen at kv2
 clear h hI hrow hnn
 go_enter Tryz.func138,Tryz.ntmps138
 go_wp2_with fail
 go_loopw [3,4] (fun ov iv wr=>∃(i:Nat) (q:Option Addr) (k:Nat),i≤nn∧iv= .int .i64 i∧ov= .slice q i k∧Hid (wr.ownsRow w.heap.size 61 3 (.slice q i k) i (yB (jm (c.C.take i))))∧Below w.heap.size w wr) (fun _ iv _=>nn-(intOf iv).toNat)
 case atStart=>exact⟨0,none,0,om,by go_num,rfl,aR _ _ _ _,aK _ _⟩
 case round=>
  obtain⟨i,q,k,hile,rfl,rfl,HO,hbel⟩:=hrel
  by_cases hin:i<nn
  ·obtain⟨s,hs⟩: ∃s,c.C[i]?=some s:=⟨c.C[i]'(by rw[←EN.out];exact hin),au _⟩
   obtain⟨p,hp,hsl0⟩:=HC.out.at hs
   have hsl:=hsl0.below hbel
   obtain⟨g,of,rfl,hg,hc0⟩:=qI.out i p hp
   have ck:wr.cell? ⟨g,of+i,none⟩=some (.pointer (some ⟨p.1,0,none⟩)):=(hbel.cell (p:=⟨g,of+i,none⟩) hg).trans hc0
   have gl:g<wr.heap.size:=aG hg hbel.size
   have hik:i<kv:=om
   obtain⟨d0,d1,d2,d3,dl,dl2⟩:=hsl.cells
   have SN:=ah (sK hs)
   have HB:=ah hbel
   have hji:(i:Int)<(nn:Int):=om
   have hj0:(0:Int)≤(i:Int):=om
   clear hc0 hsl hsl0 hs hp
   go_wp2_with (first|(at_builtin;refine sJ elPl (base:=w.heap.size) (v:=.slice q i k) (n:=i) (ms:=[.int .i64 s.nd,.int .i64 s.pg,.int .i64 0]) rf (.tmp 11) (.tmp 19) rf rf rf (HO.out.alloc _) rfl (xg _ _ _ _ _) (by intro u hu;simp at hu;rcases hu with rfl|rfl|rfl<;>rfl) om (by have:=HB.out.size;simp;omega) ?_;intro q4 k4 w4 iy hg4))
   have hb4:Below w.heap.size w w4:=(HB.out.alloc (by have:=HB.out.size;simpa using this) _).grown hg4 (by have:=HB.out.size;simp;omega) (fun r hr=>(HO.out.lt r hr).1)
   have HO4:=ah iy
   clear iy hg4
   go_wp2
   go_round
   case rel=>exact⟨i+1,q4,k4,om,by go_num,rfl,(show World.ownsRow _ _ _ _ _ _ _ by rw[SN.out,xq];exact HO4.out),hb4⟩
   case measure=>simp[intOf];omega
  ·obtain rfl:i=nn:=by omega
   have HO':=HO.out
   rw[ALL.out] at HO'
   have HOO:=ah HO'
   clear HO HO'
   go_wp2
   go_ret
   exact⟨_,_,rfl,HOO.out,hbel⟩
theorem csize_ok (h:CS B w pc pz mn lw hi O e X vs As c):Calls Tryz.prog 141 #[.pointer (some ⟨pc,0,none⟩)] w fun r w'=>r= .returned (.int .i64 e)∧w'=w:=by
 have c1:=h.ch.c.c 1 _ rfl;have cl:=h.ch.c.lt
 clear h
 go_enter Tryz.func141,Tryz.ntmps141
 go_wp2
 go_ret
 exact⟨rfl,rfl⟩
theorem Bp (h:CS B w pc pz mn lw hi O e X vs As c) (hr:RC X w pcm pm gN e mn lw hi O M v A c) (hI:jD e c):
 Calls Tryz.prog 32 #[.pointer (some ⟨pc,0,none⟩),.pointer (some ⟨pcm,0,none⟩)] w fun r w'=>r= .returned (.int .i64 1)∧Below w.heap.size w w':=by
 have HC:=ah h;have HR:=ah hr;have HI:=ah hI
 have e1:=hI.e1;have e2:=hI.e2
 have few:=hI.few
 have ofew:=obs_few hI
 have TO:=ah (E8 hr hI)
 obtain⟨q0,k0,ev,kv1,kv2,_⟩:=hr.b.form
 subst ev
 have LT:Hid ((oU e c.C).length=jN c.C):=uH e c.C
 have LR:Hid (oz c.C=c.C.length*gP e):=vH _ _ _ fun s hs=>hI.len s hs
 have r64:gP e≤64:=by unfold gP;exact bP _ _
 have LP:Hid ((jm c.C).length=c.C.length):=AY c.C
 clear h hr hI
 go_enter Tryz.func32,Tryz.ntmps32
 go_wp2_with fail
 refine TO.out.mono ?_
 rintro r w1 ⟨v5,rfl,hown,hb1⟩
 obtain⟨q5,k5,ev5,k51,k52,_⟩:=yH hown
 subst ev5
 have HO1:=ah (yH hown)
 have HB1:=ah hb1
 have z1:=hb1.size
 have CO:=ah (count_ok (HC.out.below hb1) HI.out)
 clear TO hown hb1
 go_wp2_with fail
 refine CO.out.mono ?_
 rintro r w2 ⟨rfl,hb2⟩
 have B2:=ah (HB1.out.trans (hb2.mono z1))
 have z2:=hb2.size
 have HO2:=ah (HO1.out.below hb2)
 have C2:=ah (HC.out.below B2.out);have R2:=ah (HR.out.below B2.out)
 obtain⟨n,hn⟩: ∃n,n=c.C.length:=⟨_,rfl⟩
 have HN:=ah hn
 obtain⟨t,ht⟩: ∃t,t=jN c.C:=⟨_,rfl⟩
 have lt:=LT.out
 rw[←ht] at lt ⊢
 rw[lt] at k51 ⊢
 obtain⟨rm,hrm⟩: ∃rm,rm=n*gP e:=⟨_,rfl⟩
 have hrn:oz c.C=rm:=by rw[hrm,hn];exact LR.out
 rw[hrn]
 have hrm1:rm≤65536:=by
  have:=dH (show n≤1024 by omega) r64
  omega
 have hmul:IntKind.i64.wrap ((n:Int)*((gP e:Nat):Int))=(rm:Int):=by
  have:(n:Int)*((gP e:Nat):Int)=(rm:Int):=by rw[hrm];simp
  rw[this];exact aT _ om
 have en0: ¬((e:Int)=0):=om
 have en1: ¬(e=0):=om
 have hq0:(64:Int) / (e:Int)=(gP e:Int):=by unfold gP;rw[Int.natCast_ediv];rfl
 have hq:(64:Int).tdiv (e:Int)=(gP e:Int):=by rw[dL om];exact hq0
 have hwr:IntKind.i64.wrap ((gP e:Nat):Int)=(gP e:Int):=aT _ om
 have EVO:Hid (Value.slice q5 (oU e c.C).length k5= .slice q5 t k5):=by show _=_;rw[lt]
 have D0:Hid (∀W,Below w2.heap.size w2 W→W.cell? ⟨pcm,1,none⟩=some (.int .i64 e)):=fun W b=>(R2.out.below b).b.c.c 1 _ rfl
 have D1:Hid (∀W,Below w2.heap.size w2 W→W.cell? ⟨pcm,2,none⟩=some (.slice q0 n k0)):=fun W b=>by rw[hn];exact(R2.out.below b).b.c.c 2 _ rfl
 have SL:Hid (∀W,Below w2.heap.size w2 W→Calls Tryz.prog 137 #[.pointer (some ⟨pc,0,none⟩)] W fun r w'=>∃q k,r= .returned (.slice q n k)∧RdP w' (.slice q n k) (jm c.C)∧Below W.heap.size W w'):=fun W b=>(DT (C2.out.below b) HI.out).mono fun r w' ⟨q,k,h1,h2,h3⟩=>⟨q,k,by rw[hn];exact h1,by rw[hn];rw[←LP.out] at h2 ⊢;exact Eh h2,h3⟩
 have PL:Hid (∀W,Below w2.heap.size w2 W→Calls Tryz.prog 138 #[.slice q0 n k0] W fun r w'=>∃q k,r= .returned (.slice q n k)∧RdP w' (.slice q n k) (jm c.C)∧Below W.heap.size W w'):=fun W b=>by
  have:=Em (R2.out.below b) HI.out
  rw[hn]
  exact this.mono fun r w' ⟨q,k,h1,h2,h3⟩=>⟨q,k,h1,by rw[←LP.out] at h2 ⊢;exact Eh h2,h3⟩
 have SP:Hid (∀(W:World) (qa qb:Option Addr) (ka kb:Nat),RdP W (.slice qa n ka) (jm c.C)→RdP W (.slice qb n kb) (jm c.C)→Calls Tryz.prog 136 #[.slice qa n ka,.slice qb n kb] W fun e w'=>e= .returned (.bool true)∧Below W.heap.size W w'):=fun W qa qb ka kb h1 h2=>Ej _ _ _ W h1 h2
 have TK:Hid (∀W,Below w2.heap.size w2 W→Calls Tryz.prog 140 #[.pointer (some ⟨pc,0,none⟩)] W fun r w'=>∃q k,r= .returned (.slice q t k)∧RdO w' (.slice q t k) (oU e c.C)∧Below W.heap.size W w'):=fun W b=>(DR (C2.out.below b) HI.out).mono fun r w' ⟨vv,h1,h2,h3⟩=>by
  have h4:=yH h2
  obtain⟨q,k,h5,_⟩:=id h4
  rw[lt] at h5
  subst h5
  exact⟨q,k,h1,h4,h3⟩
 have SO:Hid (∀(W:World) (qa:Option Addr) (ka:Nat),RdO W (.slice qa t ka) (oU e c.C)→Below w2.heap.size w2 W→Calls Tryz.prog 139 #[.slice qa t ka,.slice q5 t k5] W fun e w'=>e= .returned (.bool true)∧Below W.heap.size W w'):=fun W qa ka h1 b=>Ei _ _ _ W h1 (by rw[←EVO.out];exact HO2.out.below b)
 have SZ:Hid (∀W,Below w2.heap.size w2 W→Calls Tryz.prog 141 #[.pointer (some ⟨pc,0,none⟩)] W fun r w'=>r= .returned (.int .i64 e)∧w'=W):=fun W b=>csize_ok (C2.out.below b)
 have x0:=D0.out _ (aK _ _);have x1:=D1.out _ (aK _ _)
 have PL0:Hid (pcm<w2.heap.size):=R2.out.b.c.lt
 have pl0:=PL0.out
 unfold maxLen at kv2 k52
 clear HO1 HC HR HB1 CO hb2 hn ht lt hrm hrn LT LR kv1
 go_wp2_with fail
 go_region_held3 (fun w'=>w'.cell? ⟨pcm,1,none⟩=some (.int .i64 e)∧w'.cell? ⟨pcm,2,none⟩=some (.slice q0 n k0)) (go_keep) (first
  |(go_at_call 137;refine(SL.out _ gI).mono ?_;rintro e' wa ⟨qa,ka,rfl,hra,hba⟩;have cba:Below w2.heap.size w2 wa:=(show Below w2.heap.size w2 _ from gI).trans (hba.mono sI);have xa0:=D0.out _ cba;have xa1:=D1.out _ cba)
  |(go_at_call 138;refine(PL.out _ cba).mono ?_;rintro e' wb ⟨qb,kb,rfl,hrb,hbb⟩;have cbb:Below w2.heap.size w2 wb:=cba.trans (hbb.mono cba.size);have xb0:=D0.out _ cbb;have xb1:=D1.out _ cbb)
  |(go_at_call 136;refine(SP.out _ _ _ _ _ (hra.below hbb) hrb).mono ?_;rintro e' wc ⟨rfl,hbc⟩;have cbc:Below w2.heap.size w2 wc:=cbb.trans (hbc.mono cbb.size);have xc0:=D0.out _ cbc;have xc1:=D1.out _ cbc)
  |(go_at_call 140;refine(TK.out _ cbc).mono ?_;rintro e' wd ⟨qd,kd,rfl,hrd,hbd⟩;have cbd:Below w2.heap.size w2 wd:=cbc.trans (hbd.mono cbc.size);have xd0:=D0.out _ cbd;have xd1:=D1.out _ cbd)
  |(go_at_call 139;refine(SO.out _ _ _ hrd cbd).mono ?_;rintro e' we ⟨rfl,hbe⟩;have cbe:Below w2.heap.size w2 we:=cbd.trans (hbe.mono cbd.size);have xe0:=D0.out _ cbe;have xe1:=D1.out _ cbe)
  |(go_at_call 141;refine(SZ.out _ cbe).mono ?_;rintro e' wf ⟨rfl,rfl⟩))
 all_goals
  have KE:Below w.heap.size w _:=B2.out.trans (cbe.mono (by have:=B2.out.size;omega))
  go_wp2
  go_ret
  exact⟨sI,KE⟩
end
end
section
section
variable {e:Nat} {c:Ca}
def backC (e:Nat) (c:Ca) (l:List Ob):Ca:=l.foldl (fun c o=>(jB e c o).1) c
end
abbrev Hd:=List Ob×List Ob
structure De where
 c:Ca
 H:List Hd
 P:List (List Ob)
def loadD (h:Hd) (P:List (List Ob)):Hd×List (List Ob):=
 if h.1=[] then(if h.2=[] then(match P.getLast? with|some m=>((m,[]),P.dropLast)|none=>(h,P)) else((h.2,[]),P)) else(h,P)
def fillD (h:Hd) (P:List (List Ob)):Hd×List (List Ob):=
 if h.1.length=4 then(if h.2=[] then(([],h.1),P) else(([],h.2),P++[h.1])) else(h,P)
def handD (d:De) (k:Int):Option Hd:=if k<0 then none else d.H[k.toNat]?
def heldH (H:List Hd):List Ob:=H.flatMap fun h=>h.1++h.2
def held (d:De):List Ob:=heldH d.H++d.P.flatten
def outD (e:Nat) (d:De) (o:Ob):Bool:=decide (o∈oU e d.c.C)&& !decide (o∈held d)
def takeD (mn:Int) (O:List (List Int)) (e:Nat) (d:De) (k v:Int) (u:Bool):De×Nat×Ob:=match handD d k with
 |none=>(d,2,(0,0))
 |some h=>match (loadD h d.P).1.1.getLast? with
  |some o=>(⟨d.c,d.H.set k.toNat ((loadD h d.P).1.1.dropLast,(loadD h d.P).1.2),(loadD h d.P).2⟩,0,o)
  |none=>(⟨(takeC mn O e d.c v u).1,d.H,d.P⟩,(takeC mn O e d.c v u).2.1,(takeC mn O e d.c v u).2.2)
def giveD (e:Nat) (d:De) (k:Int) (o:Ob):De×Nat:=match handD d k with
 |none=>(d,2)
 |some h=>if outD e d o=true then(⟨d.c,d.H.set k.toNat ((fillD h d.P).1.1++[o],(fillD h d.P).1.2),(fillD h d.P).2⟩,0) else(d,9)
def drainD (e:Nat) (d:De) (k:Int):De×Nat×Nat:=match handD d k with
 |none=>(d,2,0)
 |some h=>(⟨backC e d.c (h.1++h.2),d.H.set k.toNat ([],[]),d.P⟩,0,(h.1++h.2).length)
def emptyD (e:Nat) (d:De):De×Nat:=(⟨backC e d.c d.P.flatten,d.H,[]⟩,d.P.flatten.length)
structure InvD (e:Nat) (d:De):Prop where
 c:jD e d.c
 hl:1≤d.H.length∧d.H.length≤4
 sub: ∀o∈held d,o∈oU e d.c.C
 nd:(held d).Nodup
 h4: ∀h∈d.H,h.1.length≤4∧h.2.length≤4
 p4: ∀m∈d.P,m.length=4
section
variable {mn:Int} {O:List (List Int)} {e:Nat} {d:De} {k v:Int} {u:Bool} {o:Ob} {h:Hd}
end
end
section
open Go.RowKit Go.Maps
def RowO (X:List Nat) (w:World) (v:Value) (l:List Ob):Prop:=
 ∃p cap,v= .slice p l.length cap∧l.length≤cap∧cap≤maxLen∧∀j a k,l[j]?=some (a,k)→∃g off,p=some ⟨g,off,none⟩∧g∉X∧g<w.heap.size∧w.cell? ⟨g,off+j*2,none⟩=some (.int .i64 a)∧w.cell? ⟨g,off+j*2+1,none⟩=some (.int .i64 k)
section
variable {X Y S:List Nat} {w w':World} {v:Value} {l:List Ob}
end
abbrev HV:=List (Value×Value)
def handL (V:HV):List Value:=V.flatMap fun p=>[p.1,p.2]
def day (pd gh:Nat) (vp:Value):List Nat:=pd::gh::gQ vp
def xd (pc:Nat) (v:Value) (A:SA) (L:List Nd) (pd gh:Nat) (vp:Value):List Nat:=day pd gh vp++(cay pc v A++ys L)
structure DepB (X:List Nat) (B:Nat) (w:World) (pd pc gh:Nat) (V:HV) (vp:Value) (U:List Value) (H:List Hd) (P:List (List Ob)):Prop where
 d:gH w pd [.pointer (some ⟨pc,0,none⟩),.slice (some ⟨gh,0,none⟩) H.length H.length,vp]
 hs:gH w gh (handL V)
 hl:V.length=H.length
 ho: ∀(i:Nat) (p:Value×Value) (h:Hd),V[i]?=some p→H[i]?=some h→RowO X w p.1 h.1∧RowO X w p.2 h.2
 row:w.ownsRow B 79 1 vp P.length U
 ul:U.length=P.length
 po: ∀(i:Nat) (u:Value) (m:List Ob),U[i]?=some u→P[i]?=some m→RowO X w u m
 mem: ∀y∈day pd gh vp,y∈X
 nd:(day pd gh vp).Nodup
 lim: ∀y∈day pd gh vp,B≤y∧y<w.heap.size
structure CD (B:Nat) (w:World) (X:List Nat) (pd pc pz gh:Nat) (mn lw hi:Int) (O:List (List Int)) (e:Nat) (v:Value) (A:SA) (V:HV) (vp:Value) (U:List Value) (d:De):Prop where
 x: ∀y∈xd pc v A d.c.L pd gh vp,y∈X
 lim: ∀y∈X,B≤y∧y<w.heap.size
 cs:CS B w pc pz mn lw hi O e X v A d.c
 de:DepB X B w pd pc gh V vp U d.H d.P
 ne: ∀y∈day pd gh vp,y∉cay pc v A∧y∉ys d.c.L
def CDx (B:Nat) (w:World) (X F:List Nat) (pd pc pz gh:Nat) (mn lw hi:Int) (O:List (List Int)) (e:Nat) (d:De):Prop:=∃v A V vp U,CD B w X pd pc pz gh mn lw hi O e v A V vp U d∧∀f∈F,f∈X∧f∉xd pc v A d.c.L pd gh vp
section
variable {X Y S F:List Nat} {B:Nat} {w w':World} {pd pc pz gh e:Nat} {mn lw hi:Int} {O:List (List Int)} {v v' vp vp':Value} {A A':SA} {V V':HV} {U U':List Value} {d d':De} {H:List Hd} {P:List (List Ob)} {c c':Ca}
theorem CS.sub (h:CS B w pc pz mn lw hi O e X v A c) (hY: ∀y∈Y,y∈X) (h1: ∀y∈cay pc v A,y∈Y) (h2: ∀y∈ys c.L,y∈Y):CS B w pc pz mn lw hi O e Y v A c:=by
 obtain⟨qn,kn,qo,ko,z1,z2,z3⟩:=h.z.z
 exact⟨⟨⟨qn,kn,qo,ko,z1,z2.sub hY,z3.sub hY⟩,h.z.b,h2,fun q=>h.z.out (hY _ q),fun x hx q=>h.z.outb x hx (hY _ q),h.z.ord,h.z.m0⟩,⟨h.ch.c,h.ch.row,h.ch.len,h.ch.sl,h1,h.ch.nd,h.ch.lim⟩,h.ne,h.l0⟩
def off (X F:List Nat):List Nat:=X.filter fun x=> !F.contains x
theorem jw {s:Nat}:s∈off X F↔s∈X∧s∉F:=by unfold off;simp
end
end
section
open Go.RowKit Go.Maps
section
variable {X Y S:List Nat} {B:Nat} {ev:Nat→Addr} {w w':World} {pd pc pz gh e:Nat} {mn lw hi:Int} {O:List (List Int)} {v vp:Value} {A:SA} {V:HV} {U:List Value} {d:De} {c:Ca}
def nilH:Value×Value:=(.slice none 0 0,.slice none 0 0)
end
end
section
open Go.RowKit Go.Maps
attribute [local go_sem ↓] bA bB
section
variable {X Y S F:List Nat} {B:Nat} {ev:Nat→Addr} {w w':World} {pd pc pz gh e:Nat} {mn lw hi:Int} {O:List (List Int)} {v vp vp':Value} {A:SA} {V:HV} {U U':List Value} {d:De} {c:Ca} {P':List (List Ob)}
def DtkPost (B:Nat) (ev:Nat→Addr) (pd pc pz gh:Nat) (mn lw hi:Int) (O:List (List Int)) (e:Nat) (X F:List Nat) (w:World) (r:De×Nat×Ob) (en:Ending) (w':World):Prop:=
 en= .returned (.tuple #[obV r.2.2,iP ev r.2.1])∧∃X',CDx B w' X' F pd pc pz gh mn lw hi O e r.1∧Keep (off X F) w w'∧(∀x∈X',x∈X∨w.heap.size≤x)∧∀x∈X,x∈X'
end
end
section
open Go.RowKit Go.Maps
attribute [local go_sem ↓] bA bB
section
variable {X Y S F:List Nat} {B:Nat} {ev:Nat→Addr} {w w':World} {pd pc pz gh e:Nat} {mn lw hi:Int} {O:List (List Int)} {v vp vp':Value} {A:SA} {V:HV} {U U':List Value} {d:De} {c:Ca} {P':List (List Ob)}
end
end
section
open Go.RowKit Go.Maps
attribute [local go_sem ↓] bA bB
section
variable {X:List Nat} {w:World} {v:Value} {l:List Ob}
def liesF (b:Nat):Value:=.func (.func 265) #[] #[.pointer (some ⟨b,0,none⟩)]
end
section
variable {X:List Nat} {w:World}
end
end
section
open Go.RowKit Go.Maps
attribute [local go_sem ↓] bA bB
section
variable {X Y S:List Nat} {B:Nat} {ev:Nat→Addr} {w w':World} {pd pc pz gh e:Nat} {mn lw hi:Int} {O:List (List Int)} {v vp:Value} {A:SA} {V:HV} {U:List Value} {d:De} {c:Ca}
end
end
section
open Go.RowKit Go.Maps
attribute [local go_sem ↓] bA bB
structure yI (B:Nat) (ev:Nat→Addr) (w:World):Prop where
 z:nI B ev w
 l9:2<B
 c9:w.cell? ⟨2,0,none⟩=some (iP ev 9)
theorem yI.below {B:Nat} {ev:Nat→Addr} {w w':World} (h:yI B ev w) (hb:Below B w w'):yI B ev w':=⟨h.z.below hb,h.l9,by rw[hb.cell (p:=⟨2,0,none⟩) h.l9];exact h.c9⟩
theorem yI.size {B:Nat} {ev:Nat→Addr} {w:World} (h:yI B ev w):B≤w.heap.size:=h.z.size
theorem yI.go {B:Nat} {ev:Nat→Addr} {w w':World} (h:yI B ev w) (hb:Below w.heap.size w w'):yI B ev w':=h.below (hb.mono h.size)
theorem yI.up {B B':Nat} {ev:Nat→Addr} {w:World} (h:yI B ev w) (hb:B≤B') (hs:B'≤w.heap.size):yI B' ev w:=⟨h.z.up hb hs,aG h.l9 hb,h.c9⟩
theorem oW.s {B:Nat} {ev:Nat→Addr} {w:World} (h:oW B ev w):yI B ev w:=⟨h.z,h.glob 9 (by decide) (by decide),h.cell 9 (by decide) (by decide)⟩
section
variable {X Y S:List Nat} {B:Nat} {ev:Nat→Addr} {w w':World} {pd pc pz gh e:Nat} {mn lw hi:Int} {O:List (List Int)} {v vp vp':Value} {A:SA} {V:HV} {U U':List Value} {d:De} {c:Ca} {P':List (List Ob)}
end
end
section
open Go.RowKit Go.Maps
attribute [local go_sem ↓] bA bB
structure CZS (w0:World) (X:List Nat) (pc pz pcm pm gN e:Nat) (mn lw hi:Int) (O:List (List Int)) (M:List Nat) (vs v:Value) (As A:SA) (c d:Ca) (w:World):Prop where
 cs:CS w0.heap.size w pc pz mn lw hi O e X vs As c
 rc:RC X w pcm pm gN e mn lw hi O M v A d
 dis: ∀y∈rcs pcm pm gN A M,y∉cay pc vs As∧y∉ys c.L
 lim: ∀x∈X,w0.heap.size≤x∧x<w.heap.size
 bel:Below w0.heap.size w0 w
def CZX (w0:World) (X F:List Nat) (pc pz pcm pm gN e:Nat) (mn lw hi:Int) (O:List (List Int)) (c d:Ca) (w:World):Prop:=∃M vs v As A,CZS w0 X pc pz pcm pm gN e mn lw hi O M vs v As A c d w∧∀f∈F,f∈X∧f∉cay pc vs As++ys c.L++rcs pcm pm gN A M
section
variable {X Y S M M' F G:List Nat} {w w' w0:World} {ev:Nat→Addr} {pc pz pcm pm gN e:Nat} {mn lw hi:Int} {O:List (List Int)} {v v' vs vs':Value} {A A' As As':SA} {c c' d d':Ca} {L':List Nd}
theorem CZS.go (h:CZS w0 X pc pz pcm pm gN e mn lw hi O M vs v As A c d w) (k:Below w.heap.size w w'):CZS w0 X pc pz pcm pm gN e mn lw hi O M vs v As A c d w':=
 ⟨h.cs.below k,h.rc.below k,h.dis,fun x hx=>⟨(h.lim x hx).1,aG (h.lim x hx).2 k.size⟩,h.bel.trans (k.mono h.bel.size)⟩
theorem CZX.go (h:CZX w0 X F pc pz pcm pm gN e mn lw hi O c d w) (k:Below w.heap.size w w'):CZX w0 X F pc pz pcm pm gN e mn lw hi O c d w':=by
 obtain⟨M,vs,v,As,A,q,hF⟩:=h
 exact⟨M,vs,v,As,A,q.go k,hF⟩
theorem CZX.lim (h:CZX w0 X F pc pz pcm pm gN e mn lw hi O c d w): ∀x∈X,w0.heap.size≤x∧x<w.heap.size:=by
 obtain⟨M,vs,v,As,A,q,hF⟩:=h
 exact q.lim
theorem CZX.bel (h:CZX w0 X F pc pz pcm pm gN e mn lw hi O c d w):Below w0.heap.size w0 w:=by
 obtain⟨M,vs,v,As,A,q,hF⟩:=h
 exact q.bel
theorem CZS.prog (h:CZS w0 X pc pz pcm pm gN e mn lw hi O M vs v As A c d w) (hc:CS w0.heap.size w' pc pz mn lw hi O e Y vs' As' c') (k:Keep (cay pc vs As++ys c.L) w w') (hs:iE c.L c'.L) (h1: ∀x∈X,x∈Y) (h3: ∀y∈cay pc vs' As',y∈cay pc vs As∨w.heap.size≤y):
 CZS w0 (X++(cay pc vs' As'++ys c'.L)) pc pz pcm pm gN e mn lw hi O M vs' v As' A c' d w':=by
 have ey:ys c'.L=ys c.L:=hs.ys
 have old: ∀s∈cay pc vs As++ys c.L,s∈X:=fun s hs'=>by
  rcases aF.1 hs' with q|q
  ·exact h.cs.ch.mem s q
  ·exact h.cs.z.mem s q
 have new: ∀y∈X++(cay pc vs' As'++ys c'.L),y∈X∨w.heap.size≤y:=fun y hy=>by
  rcases aF.1 hy with q|q
  ·exact .inl q
  ·rcases aF.1 q with q|q
   ·exact(h3 y q).imp (fun r=>h.cs.ch.mem y r) id
   ·rw[ey] at q;exact .inl (h.cs.z.mem y q)
 refine⟨hc.sub (fun y hy=> ?_) (fun y hy=>aB _ (av _ hy)) (fun y hy=>aB _ (aB _ hy)),(h.rc.more (fun x hx=>av _ hx) new).keep k (fun s hs'=>.inl ⟨av _ (old s hs'),fun q=> ?_⟩),fun y hy=>⟨fun q=> ?_,fun q=> ?_⟩,fun x hx=>⟨?_,?_⟩,h.bel.trans (k.below h.bel.size fun s hs'=>(h.lim s (old s hs')).1)⟩
 ·rcases aF.1 hy with q|q
  ·exact h1 y q
  ·rcases aF.1 q with q|q
   ·exact hc.ch.mem y q
   ·exact hc.z.mem y q
 ·have:=h.dis s q
  rcases aF.1 hs' with r|r
  ·exact this.1 r
  ·exact this.2 r
 ·rcases h3 y q with r|r
  ·exact(h.dis y hy).1 r
  ·have:=h.rc.lt y hy;omega
 ·rw[ey] at q;exact(h.dis y hy).2 q
 ·rcases new x hx with q|q
  ·exact(h.lim x q).1
  ·have:=h.bel.size;omega
 ·rcases aF.1 hx with q|q
  ·exact aG (h.lim x q).2 k.size
  ·rcases aF.1 q with q|q
   ·exact(hc.ch.lim x q).2
   ·exact(hc.z.b.lim x q).2
theorem CZS.doc (h:CZS w0 X pc pz pcm pm gN e mn lw hi O M vs v As A c d w) (hr:RC Y w' pcm pm gN e mn lw hi O M' v' A' d') (h1: ∀x∈X,x∈Y) (h2: ∀x∈Y,x∈X∨w.heap.size≤x) (h3: ∀x∈Y,x<w'.heap.size) (h4: ∀y∈rcs pcm pm gN A' M',y∈rcs pcm pm gN A M∨w.heap.size≤y) (k:Keep S w w') (hS: ∀s∈S,s∈rcs pcm pm gN A M):
 CZS w0 Y pc pz pcm pm gN e mn lw hi O M' vs v' As A' c d' w':=by
 refine⟨(h.cs.more h1 h2).keep k (fun s hs=>⟨(h.dis s (hS s hs)).1,.inl ⟨h1 s (h.rc.mem s (hS s hs)),(h.dis s (hS s hs)).2⟩⟩),hr,fun y hy=> ?_,fun x hx=>⟨?_,h3 x hx⟩,h.bel.trans (k.below h.bel.size fun s hs=>(h.lim s (h.rc.mem s (hS s hs))).1)⟩
 ·rcases h4 y hy with q|q
  ·exact h.dis y q
  ·exact⟨fun r=>by have:=(h.cs.ch.lim y r).2;omega,fun r=>by have:=(h.cs.z.b.lim y r).2;omega⟩
 ·rcases h2 x hx with q|q
  ·exact(h.lim x q).1
  ·have:=h.bel.size;omega
theorem CZS.progF (h:CZS w0 X pc pz pcm pm gN e mn lw hi O M vs v As A c d w) (hF: ∀f∈F,f∈X∧f∉cay pc vs As++ys c.L++rcs pcm pm gN A M) (hs:iE c.L c'.L) (h3: ∀y∈cay pc vs' As',y∈cay pc vs As∨w.heap.size≤y):
 ∀f∈F,f∈X++(cay pc vs' As'++ys c'.L)∧f∉cay pc vs' As'++ys c'.L++rcs pcm pm gN A M:=fun f hf=>by
 obtain⟨a,b⟩:=hF f hf
 have:=(h.lim f a).2
 refine⟨av _ a,fun q=> ?_⟩
 rcases aF.1 q with q|q
 ·rcases aF.1 q with q|q
  ·rcases h3 f q with r|r
   ·exact b (av _ (av _ r))
   ·omega
  ·rw[hs.ys] at q;exact b (av _ (aB _ q))
 ·exact b (aB _ q)
theorem CZS.docF (h:CZS w0 X pc pz pcm pm gN e mn lw hi O M vs v As A c d w) (hF: ∀f∈F,f∈X∧f∉cay pc vs As++ys c.L++rcs pcm pm gN A M) (h1: ∀x∈X,x∈Y) (h4: ∀y∈rcs pcm pm gN A' M',y∈rcs pcm pm gN A M∨w.heap.size≤y):
 ∀f∈F,f∈Y∧f∉cay pc vs As++ys c.L++rcs pcm pm gN A' M':=fun f hf=>by
 obtain⟨a,b⟩:=hF f hf
 have:=(h.lim f a).2
 refine⟨h1 f a,fun q=> ?_⟩
 rcases aF.1 q with q|q
 ·exact b (av _ q)
 ·rcases h4 f q with r|r
  ·exact b (aB _ r)
  ·omega
theorem CZS.offc (h:CZS w0 X pc pz pcm pm gN e mn lw hi O M vs v As A c d w) (hF: ∀f∈F,f∈X∧f∉cay pc vs As++ys c.L++rcs pcm pm gN A M) {s:Nat} (hs:s∈cay pc vs As++ys c.L):s∈off X F:=by
 refine jw.2 ⟨?_,fun q=>(hF s q).2 (av _ hs)⟩
 rcases aF.1 hs with t|t
 ·exact h.cs.ch.mem s t
 ·exact h.cs.z.mem s t
theorem CZS.offr (h:CZS w0 X pc pz pcm pm gN e mn lw hi O M vs v As A c d w) (hF: ∀f∈F,f∈X∧f∉cay pc vs As++ys c.L++rcs pcm pm gN A M) {s:Nat} (hs:s∈rcs pcm pm gN A M):s∈off X F:=
 jw.2 ⟨h.rc.mem s hs,fun q=>(hF s q).2 (aB _ hs)⟩
theorem CZX.other (h:CZX w0 X F pc pz pcm pm gN e mn lw hi O c d w) (k:Keep S w w') (hs: ∀s∈S,s∈F):CZX w0 X F pc pz pcm pm gN e mn lw hi O c d w':=by
 obtain⟨M,vs,v,As,A,q,hF⟩:=h
 have f: ∀s∈S,s∈X∧s∉cay pc vs As∧s∉ys c.L∧s∉rcs pcm pm gN A M:=fun s hs'=>by
  obtain⟨a,b⟩:=hF s (hs s hs')
  exact⟨a,fun r=>b (av _ (av _ r)),fun r=>b (av _ (aB _ r)),fun r=>b (aB _ r)⟩
 exact⟨M,vs,v,As,A,⟨q.cs.keep k (fun s r=>⟨(f s r).2.1,.inl ⟨(f s r).1,(f s r).2.2.1⟩⟩),q.rc.keep k (fun s r=>.inl ⟨(f s r).1,(f s r).2.2.2⟩),q.dis,fun x hx=>⟨(q.lim x hx).1,aG (q.lim x hx).2 k.size⟩,q.bel.trans (k.below q.bel.size fun s r=>(q.lim s (f s r).1).1)⟩,hF⟩
theorem CZX.add (h:CZX w0 X F pc pz pcm pm gN e mn lw hi O c d w) (k:Below w.heap.size w w') (hG: ∀g∈G,w.heap.size≤g∧g<w'.heap.size):CZX w0 (G++X) (G++F) pc pz pcm pm gN e mn lw hi O c d w':=by
 obtain⟨M,vs,v,As,A,q,hF⟩:=h
 have n1: ∀y∈G++X,y∈X∨w.heap.size≤y:=fun y hy=>by
  rcases aF.1 hy with r|r
  ·exact .inr (hG y r).1
  ·exact .inl r
 refine⟨M,vs,v,As,A,⟨(q.cs.more (fun x hx=>aB _ hx) n1).below k,(q.rc.more (fun x hx=>aB _ hx) n1).below k,q.dis,fun x hx=> ?_,q.bel.trans (k.mono q.bel.size)⟩,fun f hf=> ?_⟩
 ·rcases aF.1 hx with r|r
  ·exact⟨cZ q.bel.size (hG x r).1,(hG x r).2⟩
  ·exact⟨(q.lim x r).1,aG (q.lim x r).2 k.size⟩
 ·rcases aF.1 hf with r|r
  ·refine⟨av _ r,fun t=> ?_⟩
   have:=(hG f r).1
   rcases aF.1 t with t|t
   ·rcases aF.1 t with t|t
    ·have:=(q.cs.ch.lim f t).2;omega
    ·have:=(q.cs.z.b.lim f t).2;omega
   ·have:=q.rc.lt f t;omega
  ·exact⟨aB _ (hF f r).1,(hF f r).2⟩
theorem CZX.subF (h:CZX w0 X F pc pz pcm pm gN e mn lw hi O c d w) (hG: ∀g∈G,g∈F):CZX w0 X G pc pz pcm pm gN e mn lw hi O c d w:=by
 obtain⟨M,vs,v,As,A,q,hF⟩:=h
 exact⟨M,vs,v,As,A,q,fun f hf=>hF f (hG f hf)⟩
def oK (w0:World) (X F:List Nat) (pc pz pcm pm gN e:Nat) (mn lw hi:Int) (O:List (List Int)) (c d:Ca) (w:World) (r:Value) (en:Ending) (w':World):Prop:=
 en= .returned r∧∃X',CZX w0 X' F pc pz pcm pm gN e mn lw hi O c d w'∧Keep (off X F) w w'∧∀x∈X',x∈X∨w.heap.size≤x
theorem cz_take (j:Int) (u:Bool) (hE:nI w0.heap.size ev w0) (hI:jD e c) (h:CZX w0 X F pc pz pcm pm gN e mn lw hi O c d w):
 Calls Tryz.prog 23 #[.pointer (some ⟨pc,0,none⟩),.int .i64 j,.bool u] w (oK w0 X F pc pz pcm pm gN e mn lw hi O (takeC mn O e c j u).1 d w (.tuple #[obV (takeC mn O e c j u).2.2,iP ev (takeC mn O e c j u).2.1])):=by
 obtain⟨M,vs,v,As,A,q,hF⟩:=h
 refine(oJ j u (hE.below q.bel) q.cs hI).mono fun r w' ⟨hr,X',v',A',h1,h2,h3,h4,h5⟩=>⟨hr,_,⟨M,_,v,_,A,q.prog h1 h2 (nC mn O e c j u) h3 h5,q.progF hF (nC mn O e c j u) h5⟩,h2.mono fun s hs=>q.offc hF hs,fun x hx=> ?_⟩
 ·rcases aF.1 hx with t|t
  ·exact .inl t
  ·rcases aF.1 t with t|t
   ·exact(h5 x t).imp (fun r=>q.cs.ch.mem x r) id
   ·rw[(nC mn O e c j u).ys] at t;exact .inl (q.cs.z.mem x t)
theorem cz_rtake (j:Int) (u:Bool) (hI:jD e d) (h:CZX w0 X F pc pz pcm pm gN e mn lw hi O c d w):
 Calls Tryz.prog 24 #[.pointer (some ⟨pcm,0,none⟩),.int .i64 j,.bool u] w (oK w0 X F pc pz pcm pm gN e mn lw hi O c (takeC mn O e d j u).1 w (.tuple #[obV (takeC mn O e d j u).2.2,.int .i64 (takeC mn O e d j u).2.1])):=by
 obtain⟨M,vs,v,As,A,q,hF⟩:=h
 refine(Bg j u q.rc hI (fun x hx=>(q.lim x hx).2)).mono fun r w' ⟨hr,X',M',v',A',r1,r2,r3,r4,r5,r6,r7⟩=> ?_
 have h4: ∀y∈rcs pcm pm gN A' M',y∈rcs pcm pm gN A M∨w.heap.size≤y:=fun y hy=>by
  rcases aF.1 hy with t|t
  ·rcases aC.1 t with t|t
   ·subst t;exact .inl (av _ (aD ..))
   ·exact(r7 y t).imp (fun s=>av _ (aj _ s)) id
  ·rcases aC.1 t with t|t
   ·subst t;exact .inl (aB _ (aD ..))
   ·rcases aC.1 t with t|t
    ·subst t;exact .inl (aB _ (aj _ (aD ..)))
    ·exact(r6 y t).imp (fun s=>aB _ (aj _ (aj _ s))) id
 refine⟨hr,X',⟨M',vs,v',As,A',q.doc r1 r3 r4 r5 h4 r2 (fun s hs=> ?_),q.docF hF r3 h4⟩,r2.mono fun s hs=>q.offr hF ?_,r4⟩
 all_goals
  rcases aC.1 hs with t|t
  ·subst t;exact aB _ (aj _ (aD ..))
  ·exact av _ t
theorem sgive_no (n oa:Int) {B:Nat} (hE:yI B ev w) (h:CS B w pc pz mn lw hi O e X vs As c) (hI:jD e c) (o1: -9223372036854775808≤oa) (o2:oa≤9223372036854775807) (hf:sV e (n,oa) c.C=none):
 Calls Tryz.prog 25 #[.pointer (some ⟨pc,0,none⟩),.agg #[.int .i64 n,.int .i64 oa]] w fun r w'=>r= .returned (iP ev 9)∧Below w.heap.size w w':=by
 have b0:Below w.heap.size w (w.alloc (.cells #[.int .i64 n,.int .i64 oa] 49)):=gI
 have FS:=ah (Ec n oa (h.below b0) hI o1 o2 hf)
 have e1:iP ev 9= .iface 434 (.pointer (some (ev 9))):=rfl
 have HB0:=ah b0;have HE:=ah hE;have E1:=ah e1
 rw[e1]
 clear h hI hf b0 hE e1
 go_enter Tryz.func25,Tryz.ntmps25
 go_wp2_with fail
 refine FS.out.mono ?_
 rintro r w1 ⟨rfl,hb1⟩
 have B2:=HB0.out.trans (hb1.mono HB0.out.size)
 have gs:w1.cell? ⟨2,0,none⟩=some (iP ev 9):=(HE.out.go B2).c9
 have gsl:2<w1.heap.size:=aG HE.out.l9 (cZ HE.out.size B2.size)
 rw[E1.out] at gs
 go_wp2
 go_ret
 exact⟨rfl,B2⟩
theorem cz_give (o:Ob) (hE:yI w0.heap.size ev w0) (hI:jD e c) (o1: -9223372036854775808≤o.2) (o2:o.2≤9223372036854775807) (h:CZX w0 X F pc pz pcm pm gN e mn lw hi O c d w):
 Calls Tryz.prog 25 #[.pointer (some ⟨pc,0,none⟩),.agg #[.int .i64 o.1,.int .i64 o.2]] w (oK w0 X F pc pz pcm pm gN e mn lw hi O (jB e c o).1 d w (iP ev (jB e c o).2)):=by
 obtain⟨M,vs,v,As,A,q,hF⟩:=h
 cases hf:sV e o c.C with
 |none=>
  have eg:jB e c o=(c,9):=by unfold jB;rw[hf]
  rw[eg]
  exact(sgive_no o.1 o.2 (hE.below q.bel) q.cs hI o1 o2 hf).mono fun r w' ⟨hr,hb⟩=>⟨hr,X,⟨M,vs,v,As,A,q.go hb,hF⟩,Keep.of hb,fun _ t=>.inl t⟩
 |some i=>
  have e0:(jB e c o).2=0:=by
   obtain⟨s,hs,_⟩:=pJ hf
   unfold jB;rw[hf];simp only[hs]
  rw[e0]
  refine(Ed o.1 o.2 q.cs hI o1 o2 hf).mono fun r w' ⟨hr,h2,h3⟩=> ?_
  have kk:=h3.mono (S':=cay pc vs As++ys c.L) (fun s hs=>av _ hs)
  have hs:iE c.L (jB e c o).1.L:=by rw[pK];exact iE.refl _
  refine⟨hr,_,⟨M,_,v,_,A,q.prog h2 kk hs (fun _ t=>t) (fun _ t=>.inl t),q.progF hF hs (fun _ t=>.inl t)⟩,h3.mono fun s hs=>q.offc hF (av _ hs),fun x hx=> ?_⟩
  rcases aF.1 hx with t|t
  ·exact .inl t
  ·rcases aF.1 t with t|t
   ·exact .inl (q.cs.ch.mem x t)
   ·rw[pK] at t;exact .inl (q.cs.z.mem x t)
theorem cz_rgive (o:Ob) (hI:jD e d) (h:CZX w0 X F pc pz pcm pm gN e mn lw hi O c d w):
 Calls Tryz.prog 26 #[.pointer (some ⟨pcm,0,none⟩),.agg #[.int .i64 o.1,.int .i64 o.2]] w (oK w0 X F pc pz pcm pm gN e mn lw hi O c (jB e d o).1 w (.int .i64 (jB e d o).2)):=by
 obtain⟨M,vs,v,As,A,q,hF⟩:=h
 exact(DY o q.rc hI).mono fun r w' ⟨hr,h2,h3⟩=>⟨hr,X,⟨M,vs,v,As,A,q.doc h2 (fun _ t=>t) (fun _ t=>.inl t) (fun x hx=>aG (q.lim x hx).2 h3.size) (fun _ t=>.inl t) h3 (fun s hs=>av _ hs),q.docF hF (fun _ t=>t) (fun _ t=>.inl t)⟩,h3.mono fun s hs=>q.offr hF (av _ hs),fun _ t=>.inl t⟩
theorem cz_page (j:Int) (hE:nI w0.heap.size ev w0) (h:CZX w0 X F pc pz pcm pm gN e mn lw hi O c d w):
 Calls Tryz.prog 27 #[.pointer (some ⟨pz,0,none⟩),.int .i64 j,.int .i64 0,.bool true] w (oK w0 X F pc pz pcm pm gN e mn lw hi O ⟨(gY mn O c.L j 0 true).1,c.C⟩ d w (.tuple #[plV (gY mn O c.L j 0 true).2.2,iP ev (gY mn O c.L j 0 true).2.1])):=by
 obtain⟨M,vs,v,As,A,q,hF⟩:=h
 refine(sw pz mn lw hi O c.L j 0 true w (hE.below q.bel) q.cs.z.toB q.cs.l0).mono fun r w' ⟨hr,h2,h3⟩=> ?_
 have kk:=h3.mono (S':=cay pc vs As++ys c.L) (fun s hs=>aB _ hs)
 have sz:=je mn O c.L j 0 true
 refine⟨hr,_,⟨M,_,v,_,A,q.prog (q.cs.zone h3 h2 sz) kk sz (fun _ t=>t) (fun _ t=>.inl t),q.progF hF sz (fun _ t=>.inl t)⟩,h3.mono fun s hs=>q.offc hF (aB _ hs),fun x hx=> ?_⟩
 rcases aF.1 hx with t|t
 ·exact .inl t
 ·rcases aF.1 t with t|t
  ·exact .inl (q.cs.ch.mem x t)
  ·rw[sz.ys] at t;exact .inl (q.cs.z.mem x t)
theorem cz_rpage (j:Int) (h:CZX w0 X F pc pz pcm pm gN e mn lw hi O c d w):
 Calls Tryz.prog 28 #[.pointer (some ⟨pm,0,none⟩),.int .i64 j,.int .i64 0,.bool true] w (oK w0 X F pc pz pcm pm gN e mn lw hi O c ⟨(gY mn O d.L j 0 true).1,d.C⟩ w (.tuple #[plV (gY mn O d.L j 0 true).2.2,.int .i64 (gY mn O d.L j 0 true).2.1])):=by
 obtain⟨M,vs,v,As,A,q,hF⟩:=h
 refine(uo pm gN mn lw hi O M d.L j 0 true w q.rc.z (fun x hx=>(q.lim x hx).2)).mono fun r w' ⟨hr,⟨X',M',hrz,x1,x2,x3,x4⟩,hk⟩=> ?_
 have hrc:RC X' w' pcm pm gN e mn lw hi O M' v A ⟨(gY mn O d.L j 0 true).1,d.C⟩:=⟨hrz,(q.rc.b.more x1 x2).keep hk (fun s hs=>by simp at hs;subst hs;exact⟨fun t=>(q.rc.ne _ t).2.1 rfl,.inl (x1 _ q.rc.z.mem.2)⟩),fun y hy=>⟨(q.rc.ne y hy).1,(q.rc.ne y hy).2.1,fun t=>by
  rcases x4 y t with r|r
  ·exact(q.rc.ne y hy).2.2 r
  ·have:=q.rc.b.lt y hy;omega⟩⟩
 have h4: ∀y∈rcs pcm pm gN A M',y∈rcs pcm pm gN A M∨w.heap.size≤y:=fun y hy=>by
  rcases aF.1 hy with t|t
  ·exact .inl (av _ t)
  ·rcases aC.1 t with t|t
   ·subst t;exact .inl (aB _ (aD ..))
   ·rcases aC.1 t with t|t
    ·subst t;exact .inl (aB _ (aj _ (aD ..)))
    ·exact(x4 y t).imp (fun s=>aB _ (aj _ (aj _ s))) id
 refine⟨hr,X',⟨M',vs,v,As,A,q.doc hrc x1 x2 x3 h4 hk (fun s hs=> ?_),q.docF hF x1 h4⟩,hk.mono fun s hs=>q.offr hF ?_,x2⟩
 all_goals simp at hs;subst hs;exact aB _ (aj _ (aD ..))
theorem En (j:Nat) (most:Int) (hE:nI w0.heap.size ev w0) (hI:jD e c) (hj:j<c.L.length) (hm:0≤most) (h:CZX w0 X F pc pz pcm pm gN e mn lw hi O c d w):
 Calls Tryz.prog 29 #[.pointer (some ⟨pc,0,none⟩),.int .i64 j,.int .i64 most] w (oK w0 X F pc pz pcm pm gN e mn lw hi O (ig j most c.C.length (c,0)).1 d w (.tuple #[.int .i64 (ig j most c.C.length (c,0)).2,.nilIface])):=by
 obtain⟨M,vs,v,As,A,q,hF⟩:=h
 refine(Bo j most (hE.below q.bel) q.cs hI hj hm).mono fun r w' ⟨hr,v',A',h1,h2,h3⟩=> ?_
 have sz:iE c.L (ig j most c.C.length (c,0)).1.L:=jI
 refine⟨hr,_,⟨M,_,v,_,A,q.prog h1 h2 sz (fun _ t=>t) (fun y hy=>.inl (h3 y hy)),q.progF hF sz (fun y hy=>.inl (h3 y hy))⟩,h2.mono fun s hs=>q.offc hF hs,fun x hx=> ?_⟩
 ·rcases aF.1 hx with t|t
  ·exact .inl t
  ·rcases aF.1 t with t|t
   ·exact .inl (q.cs.ch.mem x (h3 x t))
   ·rw[sz.ys] at t;exact .inl (q.cs.z.mem x t)
theorem xB (j most:Int) (hE:nI w0.heap.size ev w0) (hj:j<0∨(c.L.length:Int)≤j∨most<0) (h:CZX w0 X F pc pz pcm pm gN e mn lw hi O c d w):
 Calls Tryz.prog 29 #[.pointer (some ⟨pc,0,none⟩),.int .i64 j,.int .i64 most] w (oK w0 X F pc pz pcm pm gN e mn lw hi O c d w (.tuple #[.int .i64 0,iP ev 2])):=by
 obtain⟨M,vs,v,As,A,q,hF⟩:=h
 exact(yG j most (hE.below q.bel) q.cs hj).mono fun r w' ⟨hr,hb⟩=>⟨hr,X,⟨M,vs,v,As,A,q.go hb,hF⟩,Keep.of hb,fun _ t=>.inl t⟩
theorem Bq (j most:Int) (hI:jD e d) (h:CZX w0 X F pc pz pcm pm gN e mn lw hi O c d w):
 Calls Tryz.prog 31 #[.pointer (some ⟨pcm,0,none⟩),.int .i64 j,.int .i64 most] w (oK w0 X F pc pz pcm pm gN e mn lw hi O c (ig j most d.C.length (d,0)).1 w (.int .i64 (ig j most d.C.length (d,0)).2)):=by
 obtain⟨M,vs,v,As,A,q,hF⟩:=h
 refine(Bd j most q.rc hI (fun x hx=>(q.lim x hx).2)).mono fun r w' ⟨hr,v',A',h1,h2,h3⟩=> ?_
 have h4: ∀y∈rcs pcm pm gN A' M,y∈rcs pcm pm gN A M∨w.heap.size≤y:=fun y hy=>.inl (by
  rcases aF.1 hy with t|t
  ·rcases aC.1 t with t|t
   ·subst t;exact av _ (aD ..)
   ·exact av _ (aj _ (h3 y t))
  ·exact aB _ t)
 refine⟨hr,X,⟨M,vs,v',As,A',q.doc h1 (fun _ t=>t) (fun _ t=>.inl t) (fun x hx=>aG (q.lim x hx).2 h2.size) h4 h2 (fun s hs=> ?_),q.docF hF (fun _ t=>t) h4⟩,h2.mono fun s hs=>q.offr hF ?_,fun _ t=>.inl t⟩
 all_goals
  rcases aC.1 hs with t|t
  ·subst t;exact av _ (aD ..)
  ·exact aB _ (aj _ (aj _ t))
theorem page_inv {j:Int} {u:Bool} (hO:vM O c.L.length) (h:jD e c):jD e ⟨(gY mn O c.L j 0 u).1,c.C⟩:=by
 by_cases hv:j<0∨(c.L.length:Int)≤j
 ·have:(gY mn O c.L j 0 u).1=c.L:=by rw[oq om]
  rw[this];exact h
 ·rcases ug (mn:=mn) (u:=u) hO h.zi hv with⟨k,hk,e⟩|⟨i,x,b,hx,hbb,hf,b0,b1,e⟩
  ·rw[e];exact h
  ·rw[e]
   have hix:=h.zi x (aA hx)
   exact⟨h.e1,h.e2,Dh h.zi (wK hix om hbb),by simpa using h.zl,h.srt,h.len,fun z hz=>(h.tk z hz).took hx hix hf⟩
theorem Aa (mn:Int) (O:List (List Int)) (L:List Nd) (v k:Int) (u:Bool):(gY mn O L v k u).2.1≤10:=by
 unfold gY
 split
 ·simp
 split
 ·rcases zL k L with q|q<;>simp[q]
 split
 ·simp
 split<;>simp
theorem Br (j:Int) (u:Bool):(takeC mn O e c j u).2.1≤10:=by
 unfold takeC
 split
 ·simp
 split
 ·split<;>simp
 ·split
  ·simp
  ·exact Aa mn O c.L j 0 u
theorem Bt (o:Ob):(jB e c o).2≤10:=by
 unfold jB
 split
 ·simp
 ·split<;>simp
end
end
section
open Go
section
variable {P:Program} {md:Region.Mode} {l:List Oper} {n:Nat}
def qy (md:Region.Mode) (l:List Oper) (n:Nat):Bool:=
 decide (n<l.length)&&Region.sinkB md l.toArray n&&Region.chainB md l.toArray n&&
 ((List.range n).all fun j=>match l[j]? with
   |some o=>(o.after.all fun e=> !(Region.binds md e)||decide (e.on<j))&&(match o.guard with|some (g,_)=>decide (g<n)|none=>true)
   |none=>false)&&
 Region.seqB md l.toArray (l.length-n) n (List.replicate n true++List.replicate (l.length-n) false).toArray
theorem uI {listed L:Array Bool} (hB:qy md l n=true) (h:jO l n listed L) {i:Nat} (hi:i<n):
 i∈Region.ready md l.toArray L↔i∈Region.ready md (l.take n).toArray listed:=by
 simp only[qy,bq,decide_eq_true_eq] at hB
 obtain⟨⟨⟨⟨hn,_⟩,_⟩,hA⟩,_⟩:=hB
 have hAi:=dN.1 hA i (dU.2 hi)
 rw[mem_ready,mem_ready,h.getD hi true]
 have e1:(l.take n).toArray[i]?=l.toArray[i]?:=by simp[hi]
 rw[e1]
 refine and_congr_right fun _=>exists_congr fun o=>and_congr_right fun ho=> ?_
 have ho':l[i]?=some o:=by simpa using ho
 rw[ho'] at hAi
 simp only[bq] at hAi
 have hE:=dO.1 hAi.1
 exact forall_congr' fun e=>forall_congr' fun he=>forall_congr' fun hbd=>by
  have hlt:e.on<i:=by have:=hE e he;simpa[hbd] using this
  rw[h.getD om]
theorem yJ {o:Oper} {tmps:Array Value} (hB:qy md l n=true) {i:Nat} (hi:i<n) (ho:l[i]?=some o):
 Region.wanted o (yielded (l.take n).toArray tmps)=Region.wanted o (yielded l.toArray tmps):=by
 simp only[qy,bq,decide_eq_true_eq] at hB
 obtain⟨⟨⟨⟨hn,_⟩,_⟩,hA⟩,_⟩:=hB
 have hAi:=dN.1 hA i (dU.2 hi)
 rw[ho] at hAi
 simp only[bq] at hAi
 unfold Region.wanted
 cases hg:o.guard with
 |none=>rfl
 |some p=>
  obtain⟨g,b⟩:=p
  have hgn:g<n:=by
   have:=hAi.2
   rw[hg] at this
   simpa using this
  have e1:yielded (l.take n).toArray tmps g=yielded l.toArray tmps g:=by unfold yielded;simp[hgn]
  simp only[e1]
theorem cut2_all {listed L:Array Bool} (hB:qy md l n=true) (h:jO l n listed L) (he:Region.ready md (l.take n).toArray listed=[]): ∀i,i<n→listed.getD i false=true:=by
 simp only[qy,bq,decide_eq_true_eq] at hB
 obtain⟨⟨⟨⟨hn,_⟩,_⟩,hA⟩,_⟩:=hB
 intro i
 induction i using Nat.strongRecOn with
 |_ i ih=>
  intro hi
  cases hl:listed.getD i false with
  |true=>rfl
  |false=>
   have hAi:=dN.1 hA i (dU.2 hi)
   have hil:i<l.length:=om
   rw[au hil] at hAi
   simp only[bq] at hAi
   have hE:=dO.1 hAi.1
   have:i∈Region.ready md (l.take n).toArray listed:=mem_ready.2 ⟨getD_in (by rw[h.s1];exact hi) hl,l[i],by simp[hi,hil],fun e he hbd=>by
    have hlt:e.on<i:=by have:=hE e he;simpa[hbd] using this
    exact ih e.on hlt om⟩
   rw[he] at this
   cases this
theorem Eo {Q:Exit→Act→World→Prop} {listed L:Array Bool} {a:Act} {w:World} (hB:qy md l n=true) (h:jO l n listed L) (he:Region.ready md (l.take n).toArray listed=[])
 (hQ:wpList P l.toArray Q (l.drop n) a w):wpAny P md l.toArray Q (l.drop n).length L a w:=by
 have ha:=cut2_all hB h he
 simp only[qy,bq,decide_eq_true_eq] at hB
 obtain⟨⟨⟨⟨hn,_⟩,_⟩,_⟩,hseq⟩:=hB
 have e:=zR h hn ha
 subst e
 exact wpAny_of_seq (l.drop n) n _ a w (fun j=>by simp[bM]) (by simpa using hseq) hQ
theorem cut2_any {Q:Exit→Act→World→Prop} (hB:qy md l n=true):
 ∀(f:Nat) (listed L:Array Bool) (a:Act) (w:World),jO l n listed L→HeadInv md l.toArray n L→
  wpAny P md (l.take n).toArray (lU P l n Q) f listed a w→wpAny P md l.toArray Q ((l.drop n).length+f) L a w:=by
 have hB':=hB
 simp only[qy,bq,decide_eq_true_eq] at hB'
 obtain⟨⟨⟨⟨hn,hs⟩,hc⟩,hA⟩,_⟩:=hB'
 intro f
 induction f with
 |zero=>
  intro listed L a w hr inv h
  exact Eo hB hr h.1 h.2
 |succ f ih=>
  intro listed L a w hr inv h
  by_cases he:Region.ready md (l.take n).toArray listed=[]
  ·exact nJ _ (f+1) _ _ _ (Eo hB hr he (h.1 he))
  ·obtain⟨i0,hi0⟩:=List.exists_mem_of_ne_nil _ he
   have hi0n:i0<n:=by
    obtain⟨_,o,ho,_⟩:=mem_ready.1 hi0
    have:=(fF.1 ho).1
    simp at this;omega
   have hun:L.getD i0 true=false:=by rw[hr.getD hi0n];exact(mem_ready.1 hi0).1
   have hin: ∀i∈Region.ready md l.toArray L,i<n:=fun i hi=>by
    rcases dQ i n with q|q
    ·exact q
    ·exact absurd hi (tail_waits hs hc (by simpa using hn) inv _ i0 rfl hi0n hun i q)
   refine⟨fun h0=> ?_,fun i hi=> ?_⟩
   ·have:=(uI hB hr hi0n).2 hi0
    rw[h0] at this;cases this
   ·have hin':=hin i hi
    have h1:=h.2 i ((uI hB hr hin').1 hi)
    have hil:i<l.length:=om
    have e1:(l.take n).toArray[i]?=some l[i]:=by simp[hin',hil]
    have e2:l.toArray[i]?=some l[i]:=by simp[hil]
    have hst: ∀a' w',wpAny P md (l.take n).toArray (lU P l n Q) f (listed.setIfInBounds i true) a' w'→wpAny P md l.toArray Q ((l.drop n).length+f) (L.setIfInBounds i true) a' w':=
     fun a' w' h'=>ih _ _ a' w' (hr.set hin') (inv.set hi hin') h'
    unfold wpOp at h1 ⊢
    simp only[e1] at h1
    simp only[e2]
    rw[yJ hB hin' (au hil)] at h1
    split
    ·rename_i hw
     simp only[hw,if_true] at h1
     rcases h1 with h1|h1
     ·exact .inl (Oper.wp_mono hst (Dy h1))
     ·exact .inr ⟨h1.1,qj h1.2⟩
    ·rename_i hw
     simp only[hw] at h1
     exact hst _ _ h1
theorem tq {S:World→Prop} {id:Nat} {Q:Exit→Act→World→Prop} {a:Act} {w:World} (n:Nat) (L:Array Bool) (hL:L=(List.replicate n false).toArray) (hm:P.follows .mixedOrders=true) (hB:qy .any l n=true) (hS:S w.drew)
 (h:S w.drew→wpAnyH P .any (l.take n).toArray (lU P l n Q) S n L a w.drew):(Code.region id l.toArray true).wp P Q a w:=by
 have hB':=hB
 simp only[qy,bq,decide_eq_true_eq] at hB'
 obtain⟨⟨⟨⟨hn,hs⟩,hc⟩,hA⟩,_⟩:=hB'
 refine wp_region_any hm ?_
 have hsz:(l.take n).toArray.size=n:=by simp;omega
 have h0:=h hS
 rw[hL] at h0
 have h1:=wpAny_of_held _ _ _ _ h0
 have inv0:HeadInv .any l.toArray n (Array.replicate l.toArray.size false):=
  ⟨sI,fun j oj _ hl=>(by rw[getD_replicate_false] at hl;cases hl),fun t _ ht=>getD_in (by simpa using ht) (getD_replicate_false _ _)⟩
 have rel0:jO l n (List.replicate n false).toArray (Array.replicate l.toArray.size false):=
  ⟨sI,sI,fun i hi=>by
    have h1:i<l.length:=om
    simp[h1,hi,Array.getElem?_replicate],fun t _ ht=>getD_in (by simpa using ht) (getD_replicate_false _ _)⟩
 have h2:=cut2_any (Q:=Q) hB _ _ _ a w.drew rel0 inv0 h1
 have e:(l.drop n).length+n=l.toArray.size:=by simp;omega
 rw[e] at h2
 exact h2
end
end
end Go.Proofs.YtdcbhlcbiokbeaaGreatDoor
