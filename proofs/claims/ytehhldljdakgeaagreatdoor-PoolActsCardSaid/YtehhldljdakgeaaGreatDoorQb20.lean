/- Lemmas. -/
import Derived.Test.YtehhldljdakgeaaGreatDoorQb01
import Derived.Test.YtehhldljdakgeaaGreatDoorQb18
import Derived.Test.YtehhldljdakgeaaGreatDoorQb19
set_option linter.unusedSimpArgs false
set_option linter.unusedVariables false
set_option maxHeartbeats 16000000
set_option maxRecDepth 100000
namespace Go.Proofs.YtehhldljdakgeaaGreatDoor
open Go.RowKit Go.Maps Go.Proofs.Tryz
attribute [local go_sem ↓] aJ aK
section
variable {X Y S M M' F G:List Nat} {B:Nat} {w w' w0:World} {ev:Nat→Addr} {pd pc pz gh pdm ghm pcm pm gN e:Nat} {mn lw hi:Int} {O:List (List Int)} {v v' vp vp':Value} {A A':SA} {V V':HV} {U U':List Value} {d d' m:De} {c c':Ca} {L:List Nd}
theorem rdnew_ok (pc:Nat) (n:Nat) (w:World) (n1:1≤n) (n4:n≤4):
 Calls prog 48 #[.pointer (some ⟨pc,0,none⟩),.int .i64 n] w fun r w'=>r= .returned (.pointer (some ⟨w.heap.size+1,0,none⟩))∧w'=(w.alloc (.cells (lX (List.replicate n D7)).toArray 153)).alloc (.cells #[.pointer (some ⟨pc,0,none⟩),.slice (some ⟨w.heap.size,0,none⟩) n n,.slice none 0 0] 129):=by
 have h:n=1∨n=2∨n=3∨n=4:=om;have em:madeCells (Value.agg #[.slice none 0 0,.slice none 0 0]).cells (n*2)=(lX (List.replicate n D7)).toArray:=by rcases h with rfl|rfl|rfl|rfl<;>kernel_rfl
 have MK: ∀W:World,(Instr.makeSlice 126 (.int .i64 (n:Nat)) (.int .i64 (n:Nat))).run prog W= .ok (.slice (some ⟨W.heap.size,0,none⟩) n n) (W.alloc (.cells (lX (List.replicate n D7)).toArray 153)):=fun W=>by
  obtain⟨i0,hi0,hz0,hzs,hzb⟩:=info_parts (P:=prog) (e:=153) (z:=.agg #[.slice none 0 0,.slice none 0 0]) (size:=2) (bytes:=48) kR;have:=run_make (P:=prog) W 126 153 i0 _ Tryz.underlying126 hi0 hz0 .i64 .i64 (n:Nat) (n:Nat) om (bZ _) (by rw[hzb];omega) om;rw[this,hzs,←em];simp only[bS]
 rcases h with rfl|rfl|rfl|rfl
 ·have MK':(Instr.makeSlice 126 (.int .i64 1) (.int .i64 1)).run prog w= .ok (.slice (some ⟨w.heap.size,0,none⟩) 1 1) (w.alloc (.cells (lX (List.replicate 1 D7)).toArray 153)):=MK w
  clear MK em;go_in
  go_wp2;go_ret;exact⟨rfl,rfl⟩
 ·have MK':(Instr.makeSlice 126 (.int .i64 2) (.int .i64 2)).run prog w= .ok (.slice (some ⟨w.heap.size,0,none⟩) 2 2) (w.alloc (.cells (lX (List.replicate 2 D7)).toArray 153)):=MK w
  clear MK em;go_in
  go_wp2;go_ret;exact⟨rfl,rfl⟩
 ·have MK':(Instr.makeSlice 126 (.int .i64 3) (.int .i64 3)).run prog w= .ok (.slice (some ⟨w.heap.size,0,none⟩) 3 3) (w.alloc (.cells (lX (List.replicate 3 D7)).toArray 153)):=MK w
  clear MK em;go_in
  go_wp2;go_ret;exact⟨rfl,rfl⟩
 ·have MK':(Instr.makeSlice 126 (.int .i64 4) (.int .i64 4)).run prog w= .ok (.slice (some ⟨w.heap.size,0,none⟩) 4 4) (w.alloc (.cells (lX (List.replicate 4 D7)).toArray 153)):=MK w
  clear MK em;go_in
  go_wp2;go_ret;exact⟨rfl,rfl⟩
theorem RD.start (hrz:RZ X w pm gN mn lw hi O M L) (hX: ∀x∈X,x<w.heap.size) (n:Nat)
 (hw':w'=(((w.alloc (.cells #[.pointer (some ⟨pm,0,none⟩),.int .i64 e,.slice none 0 0] 116)).alloc (.cells (lX (List.replicate n D7)).toArray 153)).alloc (.cells #[.pointer (some ⟨w.heap.size,0,none⟩),.slice (some ⟨w.heap.size+1,0,none⟩) n n,.slice none 0 0] 129))):
 RD ((w.heap.size+2)::(w.heap.size+1)::w.heap.size::X) w' (w.heap.size+2) (w.heap.size+1) w.heap.size pm gN e mn lw hi O M (.slice none 0 0) [] (List.replicate n D7) (.slice none 0 0) [] ⟨⟨L,[]⟩,List.replicate n ([],[]),[]⟩:=by
 have b:Below w.heap.size w w':=by rw[hw'];exact jY
 have hrc:Ez w.heap.size []=[w.heap.size]:=rfl;have lpm:pm<w.heap.size:=by obtain⟨vP,vN,kn,ko,qo,q1,_⟩:=hrz.z;exact q1.lt
 have lgN:=hrz.nodes.lt;have hr: ∀y∈rcs w.heap.size pm gN [] M,y≤w.heap.size:=fun y hy=>by
  rcases aD.1 hy with q|q
  ·rw[hrc] at q;simp at q;omega
  ·rcases aB.1 q with rfl|q
   ·omega
   ·rcases aB.1 q with rfl|q
    ·omega
    ·have:=hrz.lt q;omega
 refine⟨⟨(hrz.more (fun x hx=>ak _ (ak _ (ak _ hx))) (fun y hy=> ?_)).below b,⟨?_,nO.nil _ _,rfl,fun i p s hp=>by simp at hp,fun y hy=> ?_,?_,.inl rfl⟩,fun y hy=> ?_⟩,⟨?_,?_,sI,fun i p g hp hg=> ?_,nO.nil _ _,rfl,fun i u m hu=>by simp at hu,⟨sI,sI⟩,sI⟩,fun q=>by have:=hr _ q;omega,fun q=>by have:=hr _ q;omega⟩
 ·simp at hy
  rcases hy with rfl|rfl|rfl|q
  ·exact .inr om
  ·exact .inr om
  ·exact .inr om
  ·exact .inl q
 ·rw[hw']
  exact((jR.mk_ w [.pointer (some ⟨pm,0,none⟩),.int .i64 e,.slice none 0 0] 116 rfl).past _).past _
 ·rw[hrc] at hy;simp at hy;subst hy;simp
 ·rw[hrc];simp
 ·rw[hrc] at hy;simp at hy;subst hy
  exact⟨om,om,fun q=>by have:=hrz.lt q;omega⟩
 ·rw[hw']
  simp only[jE];exact jR.mk_ _ [.pointer (some ⟨w.heap.size,0,none⟩),.slice (some ⟨w.heap.size+1,0,none⟩) n n,.slice none 0 0] 129 sI
 ·rw[hw']
  exact(jR.mk_ _ (lX (List.replicate n D7)) 153 sI).past _
 ·rw[fF] at hp hg
  split at hp
  ·rw[if_pos aM] at hg
   obtain rfl:=aO hp;obtain rfl:=aO hg;exact⟨mD.nil _ _,mD.nil _ _⟩
  ·cases hp
theorem DZX.start {w3 w8 w12 w15:World} {X0:List Nat} {nw:Nat} (hs:DpS w3.heap.size w3 pd pc pz gh mn lw hi O e X0 [] ⟨⟨L,[]⟩,List.replicate nw ([],[]),[]⟩ w8) (b12:Below w8.heap.size w8 w12) (hrz:RZ X w12 pm gN mn lw hi O M L)
 (h1: ∀x∈X,(x∈X0∨w8.heap.size≤x)∧x<w12.heap.size) (h2: ∀y∈X0,y∈X) (h3:pm∉X0) (h4:gN∉X0) (h5: ∀m∈M,m∉X0)
 (hw':w15=(((w12.alloc (.cells #[.pointer (some ⟨pm,0,none⟩),.int .i64 e,.slice none 0 0] 116)).alloc (.cells (lX (List.replicate nw D7)).toArray 153)).alloc (.cells #[.pointer (some ⟨w12.heap.size,0,none⟩),.slice (some ⟨w12.heap.size+1,0,none⟩) nw nw,.slice none 0 0] 129))):
 DZX w3 ((w12.heap.size+2)::(w12.heap.size+1)::w12.heap.size::X) [] pd pc pz gh (w12.heap.size+2) (w12.heap.size+1) w12.heap.size pm gN e mn lw hi O ⟨⟨L,[]⟩,List.replicate nw ([],[]),[]⟩ ⟨⟨L,[]⟩,List.replicate nw ([],[]),[]⟩ w15:=by
 have r:=RD.start (e:=e) hrz (fun x hx=>(h1 x hx).2) nw hw';have b15:Below w12.heap.size w12 w15:=by rw[hw'];exact jY
 have s15:w15.heap.size=w12.heap.size+3:=by rw[hw'];simp
 have z12:=b12.size;refine⟨M,.slice none 0 0,[],List.replicate nw D7,.slice none 0 0,[],hs.addZ (S:=[]) hs.bel.size (Keep.of (b12.trans (b15.mono z12))) (fun s q=>by cases q) (fun x q=>ak _ (ak _ (ak _ (h2 x q)))) (fun y q=> ?_) (fun f q=>⟨.inr ?_,?_⟩),r,fun f q=>by cases q⟩
 ·simp at q
  rcases q with rfl|rfl|rfl|q
  ·exact⟨.inr om,om⟩
  ·exact⟨.inr om,om⟩
  ·exact⟨.inr om,om⟩
  ·exact⟨(h1 y q).1,by have:=(h1 y q).2;omega⟩
 ·rw[dw] at q
  have nw': ∀x∈X,x∉X0→w8.heap.size≤x:=fun x hx hn=>(h1 x hx).1.resolve_left hn
  have hrc:Ez w12.heap.size []=[w12.heap.size]:=rfl;rcases aB.1 q with rfl|q
  ·omega
  ·rcases aB.1 q with rfl|q
   ·omega
   ·rcases aD.1 q with q|q
    ·rw[hrc] at q;simp at q;omega
    ·rcases aB.1 q with rfl|q
     ·exact nw' _ hrz.mem.1 h3
     ·rcases aB.1 q with rfl|q
      ·exact nw' _ hrz.mem.2 h4
      ·exact nw' _ (hrz.memM q) (h5 f q)
 ·rw[dw] at q
  exact r.mem f q
end
structure MoI (e:Nat) (l:List Ob) (d:De):Prop where
 nd:l.Nodup
 out: ∀x∈l,x∉held d
 iff: ∀x,x∈qj e d.c.C↔x∈l∨x∈held d
section
variable {mn:Int} {O:List (List Int)} {e:Nat} {d:De} {k v:Int} {u:Bool} {l:List Ob} {o:Ob}
theorem MoI.snoc (h:MoI e l d) (ho:o∉l) {d':De} (h1:o∉held d') (h2: ∀x∈held d',x∈held d) (h3: ∀x,x∈qj e d'.c.C↔x=o∨x∈l∨x∈held d'):MoI e (l++[o]) d':=by
 refine⟨?_,fun x hx=> ?_,fun x=> ?_⟩
 ·rw[bF]
  refine⟨h.nd,sI,fun a ha b hb q=> ?_⟩;simp at hb;subst hb q;exact ho ha
 ·rcases aD.1 hx with q|q
  ·exact fun r=>h.out x q (h2 x r)
  ·simp at q;subst q;exact h1
 ·rw[h3]
  simp;constructor
  ·rintro(q|q|q)
   ·exact .inl (.inr q)
   ·exact .inl (.inl q)
   ·exact .inr q
  ·rintro((q|q)|q)
   ·exact .inr (.inl q)
   ·exact .inl q
   ·exact .inr (.inr q)
theorem MoI.take (hO:rM O d.c.L.length) (hI:pU e d) (h:MoI e l d) (k v:Int) (u:Bool):
 ((takeD mn O e d k v u).2.1=0∧(takeD mn O e d k v u).2.2∉l∧MoI e (l++[(takeD mn O e d k v u).2.2]) (takeD mn O e d k v u).1)∨
 ((takeD mn O e d k v u).2.1≠0∧MoI e l (takeD mn O e d k v u).1):=by
 cases hh:p8 d k with
 |none=>rw[uY hh];exact .inr ⟨sI,h⟩
 |some g=>
  cases hl:(ni g d.P).1.1.getLast? with
  |some o=>
   have hc:=VH (mn:=mn) (O:=O) (e:=e) (v:=v) (u:=u) hh hl;have e2:(takeD mn O e d k v u).2=(0,o):=by rw[nI hh hl]
   have ec:(takeD mn O e d k v u).1.c=d.c:=by rw[nI hh hl]
   have hoh:o∈held d:=dX.1 (by have h2:=hc o;simp only[if_true] at h2;omega);rw[e2];have hol:o∉l:=fun q=>h.out o q hoh
   have hn:o∉held (takeD mn O e d k v u).1:=fun q=>by
    have h1:=dX.2 q;have h2:=hc o;have h3:=(hI.cnt o).1;simp only[if_true] at h2;omega
   have hs: ∀x∈held (takeD mn O e d k v u).1,x∈held d:=fun x q=>dX.1 (by have:=dX.2 q;have:=hc x;omega)
   refine .inl ⟨rfl,hol,h.snoc hol hn hs fun x=> ?_⟩;rw[ec,h.iff];constructor
   ·rintro(q|q)
    ·exact .inr (.inl q)
    ·by_cases hx:x=o
     ·exact .inl hx
     ·refine .inr (.inr (dX.1 ?_))
      have:=dX.2 q;have:=hc x;rw[if_neg (fun r=>hx r.symm)] at this;omega
   ·rintro(q|q|q)
    ·subst q;exact .inr hoh
    ·exact .inl q
    ·exact .inr (hs x q)
  |none=>
   rw[o8 hh hl];have eh:held ⟨(takeC mn O e d.c v u).1,d.H,d.P⟩=held d:=rfl;rcases FQ (mn:=mn) (O:=O) hO hI.c v u with⟨t1,t2,t3⟩|⟨t1,t2⟩
   ·have hol:(takeC mn O e d.c v u).2.2∉l:=fun q=>t2 ((h.iff _).2 (.inl q))
    refine .inl ⟨t1,hol,h.snoc hol (fun q=>t2 ((h.iff _).2 (.inr q))) (fun x q=>q) fun x=> ?_⟩;rw[eh,t3,h.iff]
   ·refine .inr ⟨t1,h.nd,h.out,fun x=> ?_⟩
    show x∈qj e (takeC mn O e d.c v u).1.C↔_;rw[t2];exact h.iff x
theorem uo:(takeD mn O e d k v u).1.H.length=d.H.length:=by
 cases hh:p8 d k with
 |none=>rw[uY hh]
 |some g=>
  cases hl:(ni g d.P).1.1.getLast? with
  |some o=>rw[nI hh hl];simp
  |none=>rw[o8 hh hl]
theorem MoI.Ay (h:MoI e l d) (ho:o∈l):Ay e d o=true:=Qi.2 ⟨(h.iff o).2 (.inl ho),h.out o ho⟩
theorem Ga {l:List Ob} (hn:l.Nodup) {i:Nat} {o:Ob} (ho:l[i]?=some o) (x:Ob):x∈l.take i++l.drop (i+1)↔x∈l∧x≠o:=by
 obtain⟨hi,he⟩:=au.1 ho;have e:l=l.take i++o::l.drop (i+1):=by
  conv=>lhs;rw[←bX i l]
  rw[dY hi,he]
 have hn':=hn;rw[e] at hn';have hp:=bF.1 hn';have h1:o∉l.take i:=fun q=>hp.2.2 o q o sI rfl
 have h2:o∉l.drop (i+1):=(aS.1 hp.2.1).1;constructor
 ·intro q
  refine⟨?_,fun r=> ?_⟩
  ·rw[e]
   rcases aD.1 q with q|q
   ·exact av _ q
   ·exact aj _ (ak _ q)
  ·subst r
   rcases aD.1 q with q|q
   ·exact h1 q
   ·exact h2 q
 ·rintro⟨q,r⟩
  rw[e] at q;rcases aD.1 q with q|q
  ·exact av _ q
  ·rcases aB.1 q with q|q
   ·exact absurd q r
   ·exact aj _ q
theorem MoI.give (h:MoI e l d) (hh:(p8 d k).isSome=true) {i:Nat} (ho:l[i]?=some o):MoI e (l.take i++l.drop (i+1)) (lI e d k o).1:=by
 have hol:=aF ho;have hout:=h.Ay hol;obtain⟨g,hg⟩:=iy.1 hh;have hc:=Qh hg hout;have ec:(lI e d k o).1.c=d.c:=by unfold lI;rw[hg];simp only[hout,if_true]
 have hm: ∀x,x∈held (lI e d k o).1↔x∈held d∨x=o:=fun x=>by
  rw[←dX,←dX,hc x];by_cases q:o=x
  ·subst q;simp
  ·rw[if_neg q]
   constructor
   ·intro r;exact .inl om
   ·rintro(r|r)
    ·omega
    ·exact absurd r.symm q
 refine⟨?_,fun x hx=> ?_,fun x=> ?_⟩
 ·have:(l.take i++l.drop (i+1)).Sublist l:=by
   have:=(List.Sublist.refl (l.take i)).append (List.drop_sublist_drop_left l (Nat.le_succ i));rw[bX] at this;exact this
  exact h.nd.sublist this
 ·obtain⟨a,b⟩:=(Ga h.nd ho x).1 hx
  rw[hm];rintro(q|q)
  ·exact h.out x a q
  ·exact b q
 ·rw[ec,h.iff,hm,Ga h.nd ho]
  constructor
  ·rintro(q|q)
   ·by_cases r:x=o
    ·exact .inr (.inr r)
    ·exact .inl ⟨q,r⟩
   ·exact .inr (.inl q)
  ·rintro(⟨q,_⟩|q|q)
   ·exact .inl q
   ·exact .inr q
   ·subst q;exact .inl hol
def NoH (n:Nat) (d:De):Prop:=d.P=[]∧∀i,i<n→i<d.H.length→d.H[i]?=some ([],[])
end
structure vC (pd e:Nat) (mn:Int) (O:List (List Int)) (w0:World) extends FEnv De w0 where
 inv: ∀{X F d w},S X F d w→pU e d
 ord: ∀{X F d w},S X F d w→rM O d.c.L.length
 take: ∀{X F d w} (k n:Int) (u:Bool),S X F d w→Calls prog 24 #[.pointer (some ⟨pd,0,none⟩),.int .i64 k,.int .i64 n,.bool u] w (EPost S X F (takeD mn O e d k n u).1 w (.tuple #[obV (takeD mn O e d k n u).2.2,.int .i64 (takeD mn O e d k n u).2.1]))
 give: ∀{X F d w} (k:Int) (o:Ob),S X F d w→Calls prog 51 #[.pointer (some ⟨pd,0,none⟩),.int .i64 k,.agg #[.int .i64 o.1,.int .i64 o.2]] w (EPost S X F (lI e d k o).1 w (.int .i64 (lI e d k o).2))
 work: ∀{X F d w} (k:Int),S X F d w→Calls prog 60 #[.pointer (some ⟨pd,0,none⟩),.int .i64 k] w fun r w'=>r= .returned (.bool (decide (0≤k∧k<d.H.length)))∧w'=w
 node: ∀{X F d w} (v:Int),S X F d w→∃pc pz,w.cell? ⟨pd,0,none⟩=some (.pointer (some ⟨pc,0,none⟩))∧pd<w.heap.size∧w.cell? ⟨pc,0,none⟩=some (.pointer (some ⟨pz,0,none⟩))∧pc<w.heap.size∧
  Calls prog 61 #[.pointer (some ⟨pz,0,none⟩),.int .i64 v] w fun r w'=>r= .returned (.bool (decide (0≤v∧v<d.c.L.length)))∧Below w.heap.size w w'
section
variable {w0 w w':World} {X F G Y:List Nat} {pd gh pc pm gN e:Nat} {mn lw hi:Int} {O:List (List Int)} {m m':De} {M:List Nat} {v:Value} {A:SA} {V:HV} {vp:Value} {U:List Value} {r:Value} {en:Ending}
structure RDX (w0:World) (X F:List Nat) (pd gh pc pm gN e:Nat) (mn lw hi:Int) (O:List (List Int)) (M:List Nat) (v:Value) (A:SA) (V:HV) (vp:Value) (U:List Value) (m:De) (w:World):Prop where
 r:RD X w pd gh pc pm gN e mn lw hi O M v A V vp U m
 f: ∀f∈F,f∈X∧f∉rds pd gh pc pm gN A M
 lim: ∀x∈X,w0.heap.size≤x∧x<w.heap.size
 bel:Below w0.heap.size w0 w
 inv:pU e m
def RDS (w0:World) (X F:List Nat) (pd gh pc pm gN e:Nat) (mn lw hi:Int) (O:List (List Int)) (m:De) (w:World):Prop:=∃M v A V vp U,RDX w0 X F pd gh pc pm gN e mn lw hi O M v A V vp U m w
theorem RDX.act (h:RDX w0 X F pd gh pc pm gN e mn lw hi O M v A V vp U m w) (hi':pU e m') (hp:mO X pd gh pc pm gN e mn lw hi O M A w m' r en w'):EPost (fun X F d w=>RDS w0 X F pd gh pc pm gN e mn lw hi O d w) X F m' w r en w':=by
 obtain⟨hr,X',M',v',A',V',vp',U',r1,r2,r3,r4,r5,r6⟩:=hp;have hs:=h.bel.size;have ro: ∀s∈rds pd gh pc pm gN A M,s∈off X F:=fun s q=>jW.2 ⟨h.r.mem s q,fun t=>(h.f s t).2 q⟩
 refine⟨hr,X',⟨M',v',A',V',vp',U',r1,fun f q=>⟨r3 f (h.f f q).1,fun t=> ?_⟩,fun x q=>⟨?_,r5 x q⟩,h.bel.trans (r2.below hs fun s q=>(h.lim s (h.r.mem s q)).1),hi'⟩,r2.mono ro,r4,r3⟩
 ·rcases r6 f t with u|u
  ·exact(h.f f q).2 u
  ·have:=(h.lim f (h.f f q).1).2;omega
 ·rcases r4 x q with u|u
  ·exact(h.lim x u).1
  ·omega
def envR (w0:World) (pd gh pc pm gN e:Nat) (mn lw hi:Int) (O:List (List Int)):vC pd e mn O w0 where
 S X F m w:=RDS w0 X F pd gh pc pm gN e mn lw hi O m w
 bel:=fun⟨M,v,A,V,vp,U,h⟩=>h.bel
 lim:=fun⟨M,v,A,V,vp,U,h⟩=>h.lim
 sU:=fun⟨M,v,A,V,vp,U,h⟩ f q=>(h.f f q).1
 go:=fun⟨M,v,A,V,vp,U,h⟩ k=>⟨M,v,A,V,vp,U,h.r.below k,h.f,fun x q=>⟨(h.lim x q).1,aC (h.lim x q).2 k.size⟩,h.bel.trans (k.mono h.bel.size),h.inv⟩
 other:=fun⟨M,v,A,V,vp,U,h⟩ k hs=>⟨M,v,A,V,vp,U,h.r.keep k (fun s q=>.inl (h.f s (hs s q))),h.f,fun x q=>⟨(h.lim x q).1,aC (h.lim x q).2 k.size⟩,h.bel.trans (k.below h.bel.size fun s q=>(h.lim s (h.f s (hs s q)).1).1),h.inv⟩
 uS:=fun⟨M,v,A,V,vp,U,h⟩ k hs hy=>by
  have hz:=h.bel.size;refine⟨M,v,A,V,vp,U,(h.r.more (fun x q=>aj _ q) (fun y q=>(aD.1 q).elim (fun t=>.inr (hy y t).1) .inl)).keep k (fun s q=>.inl ⟨aj _ (h.f s (hs s q)).1,(h.f s (hs s q)).2⟩),fun f q=> ?_,fun x q=> ?_,h.bel.trans (k.below hz fun s q=>(h.lim s (h.f s (hs s q)).1).1),h.inv⟩
  ·rcases aD.1 q with t|t
   ·exact⟨av _ t,fun u=>by have:=h.r.lt f u;have:=(hy f t).1;omega⟩
   ·exact⟨aj _ (h.f f t).1,(h.f f t).2⟩
  ·rcases aD.1 q with t|t
   ·have:=hy x t;exact⟨om,this.2⟩
   ·exact⟨(h.lim x t).1,aC (h.lim x t).2 k.size⟩
 wB:=fun⟨M,v,A,V,vp,U,h⟩ hg=>⟨M,v,A,V,vp,U,h.r,fun f q=>h.f f (hg f q),h.lim,h.bel,h.inv⟩
 inv:=fun⟨M,v,A,V,vp,U,h⟩=>h.inv
 ord:=fun⟨M,v,A,V,vp,U,h⟩=>h.r.c.z.ord
 take:=fun k n u ⟨M,v,A,V,vp,U,h⟩=>(Tp k n u h.r h.inv (fun x q=>(h.lim x q).2)).mono fun r w' hp=>h.act (sw h.r.c.z.ord h.inv) hp
 give:=fun k o ⟨M,v,A,V,vp,U,h⟩=>(Tw k o h.r h.inv (fun x q=>(h.lim x q).2)).mono fun r w' hp=>h.act (yO h.inv) hp
 work:=fun k ⟨M,v,A,V,vp,U,h⟩=>h.r.worker k
 node:=fun k ⟨M,v,A,V,vp,U,h⟩=>⟨pc,pm,h.r.b.d.gC 0,h.r.b.d.lt,h.r.c.b.c.gC 0,h.r.c.b.c.lt,uZ pm gN mn lw hi O M _ k _ h.r.c.z⟩
end
def Wu (w:World) (pages mn:Int) (e nw:Nat) (en:Ending) (w':World):Prop:=
 ∃(w3:World) (X:List Nat) (pd pc pz gh pdm ghm pcm pm gN:Nat) (x:Nd),en= .returned (.tuple #[.pointer (some ⟨pd,0,none⟩),.pointer (some ⟨pdm,0,none⟩),.bool true])∧Below w.heap.size w w3∧
  DZX w3 X [] pd pc pz gh pdm ghm pcm pm gN e mn mn mn [[0]] ⟨⟨[x],[]⟩,List.replicate nw ([],[]),[]⟩ ⟨⟨[x],[]⟩,List.replicate nw ([],[]),[]⟩ w'∧x.n=pages∧x.F=wm 0 pages∧x.T=[]∧Below w.heap.size w w'
theorem yU {B:Nat} {ev:Nat→Addr} (pages mn:Int) (e nw:Nat) (w:World) (hE:qC B ev w) (hc:uF [pages] [[0]] mn mn mn=0) (hfit:mn≤9223372036854775807) (q1:1≤e) (q2:e≤64) (n1:1≤nw) (n4:nw≤4):
 Calls prog 8 #[.int .i64 pages,.int .i64 mn,.int .i64 e,.int .i64 nw] w (Wu w pages mn e nw):=by
 have hB:=hE.size;have F1:=(((jR.mk_ w [.int .i64 pages] 3 rfl).past (.cells #[.int .i64 0] 3)).past (.cells #[.slice (some ⟨w.heap.size+1,0,none⟩) 1 1] 59)).past (.cells #[.slice (some ⟨w.heap.size,0,none⟩) 1 1,.slice (some ⟨w.heap.size+2,0,none⟩) 1 1,.int .i64 mn,.int .i64 mn,.int .i64 mn] 98);have F2:=((jR.mk_ (w.alloc (.cells #[.int .i64 pages] 3)) [.int .i64 0] 3 (b:=w.heap.size+1) sI).past (.cells #[.slice (some ⟨w.heap.size+1,0,none⟩) 1 1] 59)).past (.cells #[.slice (some ⟨w.heap.size,0,none⟩) 1 1,.slice (some ⟨w.heap.size+2,0,none⟩) 1 1,.int .i64 mn,.int .i64 mn,.int .i64 mn] 98);have F3:=(jR.mk_ ((w.alloc (.cells #[.int .i64 pages] 3)).alloc (.cells #[.int .i64 0] 3)) [.slice (some ⟨w.heap.size+1,0,none⟩) 1 1] 59 (b:=w.heap.size+2) sI).past (.cells #[.slice (some ⟨w.heap.size,0,none⟩) 1 1,.slice (some ⟨w.heap.size+2,0,none⟩) 1 1,.int .i64 mn,.int .i64 mn,.int .i64 mn] 98);have F4:=jR.mk_ (((w.alloc (.cells #[.int .i64 pages] 3)).alloc (.cells #[.int .i64 0] 3)).alloc (.cells #[.slice (some ⟨w.heap.size+1,0,none⟩) 1 1] 59)) [.slice (some ⟨w.heap.size,0,none⟩) 1 1,.slice (some ⟨w.heap.size+2,0,none⟩) 1 1,.int .i64 mn,.int .i64 mn,.int .i64 mn] 98 (b:=w.heap.size+3) sI;have b0:Below w.heap.size w ((((w.alloc (.cells #[.int .i64 pages] 3)).alloc (.cells #[.int .i64 0] 3)).alloc (.cells #[.slice (some ⟨w.heap.size+1,0,none⟩) 1 1] 59)).alloc (.cells #[.slice (some ⟨w.heap.size,0,none⟩) 1 1,.slice (some ⟨w.heap.size+2,0,none⟩) 1 1,.int .i64 mn,.int .i64 mn,.int .i64 mn] 98)):=jY
 obtain⟨W0,hW0⟩:=eX (((((w.alloc (.cells #[.int .i64 pages] 3)).alloc (.cells #[.int .i64 0] 3)).alloc (.cells #[.slice (some ⟨w.heap.size+1,0,none⟩) 1 1] 59)).alloc (.cells #[.slice (some ⟨w.heap.size,0,none⟩) 1 1,.slice (some ⟨w.heap.size+2,0,none⟩) 1 1,.int .i64 mn,.int .i64 mn,.int .i64 mn] 98)));change jR ((((w.alloc _).alloc _).alloc _).alloc _) _ _ at F1;replace F1:jR W0 w.heap.size [.int .i64 pages]:=hW0▸F1;replace F2:jR W0 (w.heap.size+1) [.int .i64 0]:=hW0▸F2;replace F3:jR W0 (w.heap.size+2) [.slice (some ⟨w.heap.size+1,0,none⟩) 1 1]:=hW0▸F3;replace F4:jR W0 (w.heap.size+3) [.slice (some ⟨w.heap.size,0,none⟩) 1 1,.slice (some ⟨w.heap.size+2,0,none⟩) 1 1,.int .i64 mn,.int .i64 mn,.int .i64 mn]:=hW0▸F4;rw[hW0] at b0;have JW:Cfg [] W0 (.slice (some ⟨w.heap.size,0,none⟩) 1 1) (.slice (some ⟨w.heap.size+2,0,none⟩) 1 1) [pages] [[0]]:=by
  refine⟨xZ (us:=ints [pages]) (cap:=1) F1 (fun q=>by cases q) (by simp[ints]) (by unfold maxLen;omega),[.slice (some ⟨w.heap.size+1,0,none⟩) 1 1],rfl,xZ (cap:=1) F3 (fun q=>by cases q) sI (by unfold maxLen;omega),fun j u xs hu hxs=> ?_⟩;cases j with
  |zero=>
   simp at hu hxs;subst hu hxs;exact xZ (us:=ints [0]) (cap:=1) F2 (fun q=>by cases q) (by simp[ints]) (by unfold maxLen;omega)
  |succ j=>simp at hu
 have HM0:=ah F4;have CF:Hid (∀W,Below W0.heap.size W0 W→Cfg [] W (.slice (some ⟨w.heap.size,0,none⟩) 1 1) (.slice (some ⟨w.heap.size+2,0,none⟩) 1 1) [pages] [[0]]):=fun W hW=>JW.below hW
 have EE:Hid (∀W,Below W0.heap.size W0 W→qC B ev W):=fun W hW=>hE.go (b0.trans (hW.mono b0.size))
 have CE0:=EA [] (.slice (some ⟨w.heap.size,0,none⟩) 1 1) (.slice (some ⟨w.heap.size+2,0,none⟩) 1 1) [pages] [[0]] mn mn mn W0 JW;rw[hc] at CE0;have CE:=ah (show Calls prog 43 #[.agg #[.slice (some ⟨w.heap.size,0,none⟩) 1 1,.slice (some ⟨w.heap.size+2,0,none⟩) 1 1,.int .i64 mn,.int .i64 mn,.int .i64 mn]] W0 fun e w'=>e= .returned (.int .i64 0)∧Below W0.heap.size W0 w' from CE0);have HCE:=ah hc;have HB0:=ah b0;have OF:Hid (∀W,Below W0.heap.size W0 W→Calls prog 45 #[.agg #[.slice (some ⟨w.heap.size,0,none⟩) 1 1,.slice (some ⟨w.heap.size+2,0,none⟩) 1 1,.int .i64 mn,.int .i64 mn,.int .i64 mn]] W fun e w'=>∃vP' vN',e= .returned (.agg #[vP',vN',.int .i64 mn,.int .i64 mn,.int .i64 mn])∧Cfg [] w' vP' vN' [pages] [[0]]∧Below W.heap.size W w'):=fun W hW=>Js (X:=[]) _ _ [pages] [[0]] mn mn mn W (CF.out W hW) (fun x hx=>by cases hx) (show 1≤_ by omega) (show 1≤_ by omega) (fun j xs hj=>by cases j with|zero=>(simp at hj;subst hj;show 1≤_;omega)|succ j=>(simp at hj))
 have a0:=F4.gC 0;have a1:=F4.gC 1;have a2:=F4.gC 2;have a3:=F4.gC 3;have a4:=F4.gC 4;have al:=F4.lt;have d0:decide ((e:Int)<1)=false:=dQf om;have d1:decide ((64:Int)<(e:Int))=false:=dQf om;have d0':decide ((nw:Int)<1)=false:=dQf om;have d1':decide ((4:Int)<(nw:Int))=false:=dQf om;clear F1 F2 F3 F4 CE0 hc b0 JW hE;go_in
 go_wp2_with fail;clear hW0;refine CE.out.mono ?_;rintro r w2 ⟨rfl,hb2⟩;have HM2:=ah (HM0.out.go hb2);clear a0 a1 a2 a3 a4 al CE;have a0:=HM2.out.gC 0;have a1:=HM2.out.gC 1;have a2:=HM2.out.gC 2;have a3:=HM2.out.gC 3;have a4:=HM2.out.gC 4;have al:=HM2.out.lt;go_wp2_with fail;refine(OF.out w2 hb2).mono ?_;rintro r w3 ⟨vP',vN',rfl,hcfg,hb3⟩;have K3:Below W0.heap.size W0 w3:=hb2.trans (hb3.mono hb2.size);have HM3:=ah (HM2.out.go hb3);have NW:=ah (Tc [] vP' vN' [pages] [[0]] mn mn mn w3 (EE.out w3 K3).c hcfg HCE.out hfit);clear hcfg a0 a1 a2 a3 a4 al OF;go_wp2_with fail;refine NW.out.mono ?_;rintro r w4 ⟨pz,O,L,rfl,hz,hpz,hLn,hLF,hO,hb4⟩;obtain⟨x,rfl⟩: ∃x,L=[x]:=by
  match L,hLn with
  |[x],_=>exact⟨x,rfl⟩
 have hOO:=ordZ_one hz.ord;subst hOO;have z4:=hb4.size;have HZ:=ah hz;have HLN:=ah hLn;have HLF:=ah hLF;have HO:=ah hO;have K4:Below W0.heap.size W0 w4:=K3.trans (hb4.mono K3.size);have HM4:=ah (HM3.out.go hb4);clear hz hLn hLF hO NW;go_wp2_with fail;refine(snew_ok pz e w4 q1 q2).mono ?_;rintro r w5 ⟨rfl,hw5⟩;have C0:=CS.new HZ.out sI z4 e;rw[←hw5] at C0;have b5:Below w4.heap.size w4 w5:=by rw[hw5];exact jY
 have z5:=b5.size;have HC0:=ah C0;have K5:Below W0.heap.size W0 w5:=K4.trans (b5.mono K4.size);have BEL5:=ah (hb4.trans (b5.mono z4));obtain⟨pc,hpc⟩:=eY w4.heap.size;rw[←hpc] at HC0 ⊢;clear C0 hw5 hpc;have HM5:=ah (HM4.out.go b5);have hI: ∀y∈[x],Inv y.n y.F y.T:=fun y hy=>(HZ.out.b.bud y hy).2
 have INV0:Hid (uR e ⟨[x],[]⟩):=⟨q1,q2,hI,by show 1≤4;omega,List.Pairwise.nil,fun s hs=>(by cases hs),fun s hs=>(by cases hs)⟩;go_wp2_with fail;refine(dnew_ok pc nw w5 n1 n4).mono ?_;rintro r w6 ⟨rfl,hw6⟩;have D0:=CD.start HC0.out om nw hw6;have b6:Below w5.heap.size w5 w6:=by rw[hw6];exact jY
 have z6:=b6.size;have K6:Below W0.heap.size W0 w6:=K5.trans (b6.mono K5.size);obtain⟨pd,hpd⟩:=eY (w5.heap.size+1);obtain⟨gh,hgh⟩:=eY w5.heap.size;rw[←hpd,←hgh] at D0;rw[←hpd];have P6:=ah (show DpS w3.heap.size w3 pd pc pz gh mn mn mn [[0]] e _ [] ⟨⟨[x],[]⟩,List.replicate nw ([],[]),[]⟩ w6 from⟨D0,pU.start INV0.out nw n1 n4,BEL5.out.trans (b6.mono (by have:=BEL5.out.size;omega))⟩);have HM6:=ah (HM5.out.go b6);clear D0 hw6 b6 hpd hgh;have a0:=HM6.out.gC 0;have a1:=HM6.out.gC 1;have a2:=HM6.out.gC 2;have a3:=HM6.out.gC 3;have a4:=HM6.out.gC 4;have al:=HM6.out.lt;have NZ:=ah (JV _ (.slice (some ⟨w.heap.size,0,none⟩) 1 1) (.slice (some ⟨w.heap.size+2,0,none⟩) 1 1) [pages] [[0]] mn mn mn [[0]] [x] w6 (fun y hy=>(P6.out.lim y hy).2) (CF.out w6 K6) HCE.out hfit HLN.out HLF.out hI HZ.out.ord HO.out);clear hI;go_wp2_with fail;refine NZ.out.mono ?_;rintro r w12 ⟨X,M,pm,gN,rfl,hrz,hX1,hX2,⟨hX3,hX4,hX5⟩,hb12⟩;have K12:Below W0.heap.size W0 w12:=K6.trans (hb12.mono K6.size);have z12:=hb12.size;have ST:=fun(w15:World) hw=>DZX.start (nw:=nw) (w15:=w15) P6.out hb12 hrz hX1 hX2 hX3 hX4 hX5 hw
 have HST:=ah ST;have HK3:=ah K3;clear ST NZ hrz hX1 hX2 hX3 hX4 hX5 a0 a1 a2 a3 a4 al P6;go_wp2_with fail;refine(rdnew_ok w12.heap.size nw _ n1 n4).mono ?_;rintro r w15 ⟨rfl,hw15⟩;simp at hw15;have S0:=ah (HST.out w15 (by rw[hw15]));have b15:Below w12.heap.size w12 w15:=by rw[hw15];exact jY
 have e15:(w12.alloc (.cells #[.pointer (some ⟨pm,0,none⟩),.int .i64 e,.slice none 0 0] 116)).heap.size+1=w12.heap.size+2:=sI;rw[e15];have K15:=ah (HB0.out.trans ((K12.trans (b15.mono K12.size)).mono HB0.out.size));clear HST hw15 e15 b15;go_wp2;refine bodyPost_ret (v:=.tuple #[.pointer (some ⟨pd,0,none⟩),.pointer (some ⟨w12.heap.size+2,0,none⟩),.bool true]) (by simp[results,Tryz.results8,go_sem]) rfl ?_;exact⟨w3,_,pd,pc,pz,gh,_,_,_,pm,gN,x,rfl,HB0.out.trans (HK3.out.mono HB0.out.size),S0.out,by have:=HLN.out;simpa using this,by have:=(HLF.out x sI).1;have h2:=HLN.out;simp at h2;rw[h2] at this;exact this,(HLF.out x sI).2,K15.out⟩
noncomputable instance litDec:DecidableEq Lit:=fun a b=>Classical.propDecidable (a=b)
def rTok (v:Value):Option (DataW Value×List MemPlace):=some (.held v,[])
noncomputable def pG (L:List (Lit×Value)) (k:Lit):Option Value:=(L.find? fun p=>decide (p.1=k)).map (·.2)
noncomputable def D8 (L:List (Lit×Value)) (k:Lit):List (Lit×Value):=L.filter fun p=> !decide (p.1=k)
structure qO (P:Program) (k:TypeId) (w:World) (b:Nat) (L:List (Lit×Value)):Prop where
 own: ∃D,w.ownsMap P k rTok b L.length D∧(∀kl z,WideAt.IsKeyLit kl→D.atKey kl z=((pG L kl).map DataW.held).getD z)∧(∀kl,WideAt.IsKeyLit kl→has D kl=(pG L kl).isSome)∧size D=L.length
 nd:(L.map (·.1)).Nodup
theorem nJ (p:Lit×Value) (L:List (Lit×Value)) (k:Lit):pG (p::L) k=if p.1=k then some p.2 else pG L k:=by
 unfold pG;rw[fU];by_cases h:p.1=k<;>simp[h]
theorem yV (L:List (Lit×Value)) (k k':Lit):pG (D8 L k) k'=if k=k' then none else pG L k':=by
 induction L with
 |nil=>simp[D8,pG]
 |cons p L ih=>
  unfold D8 at ih ⊢;rw[gH];by_cases h:p.1=k
  ·simp only[h,decide_true,Bool.not_true,fK,if_false]
   rw[ih,nJ];by_cases h2:k=k'
   ·simp[h2]
   ·simp[h,h2]
  ·simp only[h,decide_false,Bool.not_false,if_true]
   rw[nJ,ih,nJ];by_cases h2:k=k'
   ·subst h2;simp[h]
   ·simp[h2]
theorem EB {L:List (Lit×Value)} {k:Lit} (h:pG L k=none): ∀p∈L,p.1≠k:=by
 intro p hp e;unfold pG at h;rw[gJ,fB] at h;exact h p hp (by simpa using e)
theorem Cg {L:List (Lit×Value)} {k:Lit} {v:Value} (h:pG L k=some v):(k,v)∈L:=by
 unfold pG at h;rw[dh] at h;obtain⟨p,h1,rfl⟩:=h;have:=gU h1;simp at this;subst this;exact dJ h1
theorem Ch {L:List (Lit×Value)} {k:Lit} (h:pG L k=none):D8 L k=L:=by
 unfold D8;rw[dN];intro p hp;simp[EB h p hp]
theorem Ci {L:List (Lit×Value)} (hn:(L.map (·.1)).Nodup) (k:Lit):(D8 L k).length+(if (pG L k).isSome then 1 else 0)=L.length:=by
 induction L with
 |nil=>simp[D8,pG]
 |cons p L ih=>
  rw[bH,aS] at hn;have ih:=ih hn.2;by_cases h:p.1=k
  ·have hl:pG L k=none:=by
    cases hq:pG L k with
    |none=>rfl
    |some v=>exact absurd (bC.2 ⟨_,Cg hq,h.symm⟩) hn.1
   have hd:=Ch hl;rw[nJ,if_pos h];unfold D8 at hd ⊢;rw[gH];simp only[h,decide_true,Bool.not_true,fK,if_false];rw[hd];simp
  ·rw[nJ,if_neg h]
   unfold D8 at ih ⊢;rw[gH];simp only[h,decide_false,Bool.not_false,if_true,dB];omega
section
variable {P:Program} {k t e:TypeId} {w w':World} {b:Nat} {L L':List (Lit×Value)} {S:List Nat}
theorem qO.made (w:World) (P:Program) (k:TypeId):qO P k (w.alloc (.map #[] 0)) w.heap.size []:=
 ⟨⟨.map [],World.ownsMap_made w P k rTok,fun kl z hk=>by rw[atKey_of_not_has rf];rfl,fun kl _=>rfl,rfl⟩,dR⟩
theorem qO.keep (h:qO P k w b L) (hk:Keep S w w') (hb:b∉S):qO P k w' b L:=by
 obtain⟨D,h1,h2⟩:=h.own;refine⟨⟨D,?_,h2⟩,h.nd⟩;have hl:=h1.lt;obtain⟨es,clock,q1,q2,q3,q4⟩:=h1;exact⟨es,clock,(hk.block b hl hb).trans q1,q2,q3,q4⟩
theorem qO.below (h:qO P k w b L) (hk:Below w.heap.size w w'):qO P k w' b L:=h.keep (Keep.of (S:=[]) hk) sI
theorem qO.as (h:qO P k w b L) (hl: ∀kl,pG L' kl=pG L kl) (hn:(L'.map (·.1)).Nodup) (hs:L'.length=L.length):qO P k w b L':=by
 obtain⟨D,h1,h2,h3,h4⟩:=h.own;exact⟨⟨D,by rw[hs];exact h1,fun kl z q=>by rw[hl];exact h2 kl z q,fun kl q=>by rw[hl];exact h3 kl q,by rw[hs];exact h4⟩,hn⟩
theorem qO.look (h:qO P k w b L) (K:Keyed P k) (ht:P.underlying t=some (.map k e)) {z:Value} (hz:(zeroValue e).run P w= .ok z w) {key:Value} {kl:Lit} (hkey:keyOf P k key=some kl):
 (Instr.lookup t (.map (some b)) key true).run P w= .ok (.tuple #[(pG L kl).getD z,.bool (pG L kl).isSome]) w:=by
 obtain⟨D,h1,h2,h3,h4⟩:=h.own;obtain⟨v,ps,hr,hv⟩:=h1.look_ok K ht hz (R:=rTok) (zd:=.held z) (zp:=[]) rfl hkey;rw[hr,h3 kl (K.key hkey)];unfold rTok at hv;rw[h2 kl _ (K.key hkey)] at hv;cases hq:pG L kl with
 |none=>rw[hq] at hv;simp at hv;simp[hv]
 |some u=>rw[hq] at hv;simp at hv;simp[hv]
theorem qO.look1 (h:qO P k w b L) (K:Keyed P k) (ht:P.underlying t=some (.map k e)) {z:Value} (hz:(zeroValue e).run P w= .ok z w) {key:Value} {kl:Lit} (hkey:keyOf P k key=some kl):
 (Instr.lookup t (.map (some b)) key false).run P w= .ok ((pG L kl).getD z) w:=by
 obtain⟨D,h1,h2,h3,h4⟩:=h.own;obtain⟨v,ps,hr,hv⟩:=h1.lookup K ht hz (R:=rTok) (zd:=.held z) (zp:=[]) rfl hkey;rw[hr];unfold rTok at hv;rw[h2 kl _ (K.key hkey)] at hv;cases hq:pG L kl with
 |none=>rw[hq] at hv;simp at hv;simp[hv]
 |some u=>rw[hq] at hv;simp at hv;simp[hv]
theorem mJ (h:w.mapTurned w' b) (hb:b∈S∨w.heap.size≤b):Keep S w w':=(Keep.refl S w).grown h.grown hb
theorem qO.put (h:qO P k w b L) (K:Keyed P k) (ht:P.underlying t=some (.map k e)) (hn:L.length<maxLen) {key val:Value} {kl:Lit} (hkey:keyOf P k key=some kl):
 ∃w',(Instr.mapUpdate t (.map (some b)) key val).run P w= .ok () w'∧qO P k w' b ((kl,val)::D8 L kl)∧w.mapTurned w' b:=by
 obtain⟨D,h1,h2,h3,h4⟩:=h.own;obtain⟨w',hr,ho,hg⟩:=h1.store K ht hn (R:=rTok) (val:=val) (d:=.held val) (ps:=[]) hkey rfl;have kk:=K.key hkey;have hD:=h1.isMap;have hT:=h1.tidy K;have hs:=size_put hT (k:=kl) (DataW.held val);have hdl:=Ci h.nd kl;have hsz:size (D.put kl (.held val))=((kl,val)::D8 L kl).length:=by
  rw[hs,h3 kl kk,h4,dB];split at hdl<;>simp_all<;>omega
 refine⟨w',hr,⟨⟨D.put kl (.held val),?_,fun kl' z q=> ?_,fun kl' q=> ?_,hsz⟩,?_⟩,hg⟩
 ·obtain⟨es,clock,q1,q2,q3,q4⟩:=ho
  refine⟨es,clock,q1,q2,?_,q4⟩;rw[←hsz,q4];simp[size,length_sorted]
 ·rw[nJ]
  by_cases hne:kl=kl'
  ·subst hne;simp[atKey_put_same hD kk]
  ·rw[if_neg hne,atKey_put_other (fun q=>hne q.symm),yV,if_neg hne,h2 kl' z q]
 ·rw[nJ]
  by_cases hne:kl=kl'
  ·subst hne;simp[has_put_same hD kk]
  ·rw[if_neg hne,has_put_other (fun q=>hne q.symm),yV,if_neg hne,h3 kl' q]
 ·rw[bH,aS]
  refine⟨fun q=> ?_,?_⟩
  ·obtain⟨p,hp,e⟩:=bC.1 q
   unfold D8 at hp;simp at hp;exact hp.2 e
  ·exact h.nd.sublist ((gF).map _)
theorem qO.drop (h:qO P k w b L) (K:Keyed P k) (ht:P.underlying t=some (.map k e)) {key:Value} {kl:Lit} (hkey:keyOf P k key=some kl) (ty:TypeId):
 ∃w',(Builtin.delete_ #[t,k] ty #[.map (some b),key]).run P w= .ok (.tuple #[]) w'∧qO P k w' b (D8 L kl)∧w.mapTurned w' b:=by
 obtain⟨D,h1,h2,h3,h4⟩:=h.own;obtain⟨w',hr,ho,hg⟩:=h1.drop K ht hkey ty;have kk:=K.key hkey;have hT:=h1.tidy K;have hs:=size_del hT (k:=kl);have hdl:=Ci h.nd kl;have hsz:size (D.del kl)=(D8 L kl).length:=by
  rw[h3 kl kk,h4] at hs;omega
 refine⟨w',hr,⟨⟨D.del kl,?_,fun kl' z q=> ?_,fun kl' q=> ?_,hsz⟩,h.nd.sublist ((gF).map _)⟩,hg⟩
 ·obtain⟨es,clock,q1,q2,q3,q4⟩:=ho
  refine⟨es,clock,q1,q2,?_,q4⟩;rw[←hsz,q4];simp[size,length_sorted]
 ·rw[yV]
  by_cases hne:kl=kl'
  ·subst hne;simp[atKey_del_same]
  ·rw[if_neg hne,atKey_del_other (fun q=>hne q.symm),h2 kl' z q]
 ·rw[yV]
  by_cases hne:kl=kl'
  ·subst hne;simp[has_del_same]
  ·rw[if_neg hne,has_del_other (fun q=>hne q.symm),h3 kl' q]
theorem yX {L:List (Lit×Value)} (hn:(L.map (·.1)).Nodup) {k:Lit} {v:Value}:pG L k=some v↔(k,v)∈L:=by
 refine⟨Cg,fun h=> ?_⟩;induction L with
 |nil=>cases h
 |cons p L ih=>
  rw[bH,aS] at hn;rw[nJ];rcases aB.1 h with q|q
  ·subst q;simp
  ·rw[if_neg (fun r=>hn.1 (bC.2 ⟨_,q,r.symm⟩))]
   exact ih hn.2 q
theorem Tz (hn:(L.map (·.1)).Nodup) (hp:L.Perm L') (k:Lit):pG L' k=pG L k:=by
 have hn':(L'.map (·.1)).Nodup:=(hp.map _).nodup_iff.1 hn;cases h:pG L k with
 |some v=>exact(yX hn').2 (hp.mem_iff.1 ((yX hn).1 h))
 |none=>
  cases h':pG L' k with
  |none=>rfl
  |some v=>
   have:=(yX hn).2 (hp.mem_iff.2 ((yX hn').1 h'));rw[h] at this;cases this
theorem qO.perm (h:qO P k w b L) (hp:L.Perm L'):qO P k w b L':=h.as (Tz h.nd hp) ((hp.map _).nodup_iff.1 h.nd) hp.length_eq.symm
end
theorem Qs:Keyed prog 40:=Keyed.of_law (deep_law_laid kR (m:=2) om (of_decide_eq_true kR) kR kR)
def qJ (o:Ob):Prop:=kW o.1∧kW o.2
theorem wf64 {a:Int} (h:kW a):(Lit.int .i64 a).wf=true:=by
 unfold kW at h;simp[Lit.wf,IntKind.min,IntKind.max,IntKind.signed,IntKind.bits];omega
def kO (o:Ob):Lit:=.string (keyBytes [.int .i64 o.1,.int .i64 o.2])
theorem keyLits_int {a:Int} (h:kW a) (n:Nat):prog.keyLits (n+1) 3 [.int .i64 a]=some [.int .i64 a]:=by
 unfold Program.keyLits;rw[bB];simp[wf64 h]
theorem keyO {o:Ob} (h:qJ o):keyOf prog 40 (.agg #[.int .i64 o.1,.int .i64 o.2])=some (kO o):=by
 have u:=iK;have k1:prog.keyType 40=true:=kR;have f1:(Value.agg #[.int .i64 o.1,.int .i64 o.2]).formed prog 40=true:=by
  have c:prog.cellsOf 40=2:=kR;simp[Value.formed,u,c]
 have l1:prog.keyLits (prog.types.size+1) 40 [.int .i64 o.1,.int .i64 o.2]=some [.int .i64 o.1,.int .i64 o.2]:=by
  have c:prog.cellsOf 40=2:=kR;have c1:prog.cellsOf 3=1:=kR;have hp:0<prog.types.size:=of_decide_eq_true kR;obtain⟨n,hn⟩: ∃n,prog.types.size=n+1:=⟨prog.types.size-1,om⟩;rw[hn];unfold Program.keyLits;rw[u];simp[c,c1,keyLits_int h.1,keyLits_int h.2]
 unfold keyOf;rw[u];simp only[k1,f1,Bool.and_self,if_true];rw[show(Value.agg #[.int .i64 o.1,.int .i64 o.2]).cells.toList=[.int .i64 o.1,.int .i64 o.2] from rfl,l1];rfl
theorem kO_inj {a b:Ob} (ha:qJ a) (hb:qJ b) (h:kO a=kO b):a=b:=by
 have h1:=keyO ha;rw[h] at h1;have:=Qs.inj h1 (keyO hb);simp at this;exact Prod.ext this.1 this.2
noncomputable def EF (T:List Ob):List (Lit×Value):=T.map fun o=>(kO o,.bool true)
def Dm (G:List (Int×Ob)):List (Lit×Value):=G.map fun g=>(.int .i64 g.1,.agg #[.int .i64 g.2.1,.int .i64 g.2.2])
theorem Qt {T:List Ob} {o:Ob} (hT: ∀x∈T,qJ x) (ho:qJ o):pG (EF T) (kO o)=if o∈T then some (.bool true) else none:=by
 induction T with
 |nil=>rfl
 |cons a T ih=>
  have ih:=ih fun x hx=>hT x (ak _ hx)
  unfold EF at ih ⊢;rw[bH,nJ,ih];by_cases q:a=o
  ·subst q;simp
  ·have:kO a≠kO o:=fun r=>q (kO_inj (hT a (aG ..)) ho r)
   have q2: ¬o=a:=fun r=>q r.symm
   rw[if_neg this];simp[q2]
theorem del_set {T:List Ob} {o:Ob} (hn:T.Nodup) (hT: ∀x∈T,qJ x) (ho:qJ o):D8 (EF T) (kO o)=EF (T.erase o):=by
 rw[List.Nodup.erase_eq_filter hn];unfold D8 EF;rw[iF];congr 1
 apply jq;intro x hx;by_cases q:x=o
 ·subst q;simp
 ·have:kO x≠kO o:=fun r=>q (kO_inj (hT x hx) ho r)
  simp[this,q]
theorem Qu {G:List (Int×Ob)} (t:Int):pG (Dm G) (.int .i64 t)=((G.find? fun g=>g.1==t).map (·.2)).map fun o=>.agg #[.int .i64 o.1,.int .i64 o.2]:=by
 induction G with
 |nil=>rfl
 |cons g G ih=>
  have e:Dm (g::G)=(.int .i64 g.1,.agg #[.int .i64 g.2.1,.int .i64 g.2.2])::Dm G:=rfl;rw[e,nJ,ih,fU];by_cases q:g.1=t
  ·subst q;simp
  ·have: ¬(Lit.int .i64 g.1= .int .i64 t):=fun r=>q (by injection r)
   have q2:(g.1==t)=false:=by simpa using q
   rw[if_neg this,q2]
theorem del_map {G:List (Int×Ob)} (t:Int):D8 (Dm G) (.int .i64 t)=Dm (G.filter fun g=>g.1 !=t):=by
 unfold D8 Dm;rw[iF];congr 1
 apply jq;intro g hg;by_cases q:g.1=t
 ·subst q;simp
 ·have: ¬(Lit.int .i64 g.1= .int .i64 t):=fun r=>q (by injection r)
  simp[this,q]
structure Po where
 d:De
 most:Nat
 R:List Ob
 T:List Ob
 W:List Int
 G:List (Int×Ob)
 last:Int
 cl:Bool
def mY (p:Po):Po×Nat:=if 8≤p.W.length then(p,10) else(⟨p.d,p.most,p.R,p.T,p.W++[p.last+1],p.G,p.last+1,p.cl⟩,8)
def mG (p:Po) (k:Int):Bool:=decide (0≤k∧k<p.d.H.length)
def vQ (p:Po) (v:Int):Bool:=decide (0≤v∧v<p.d.c.L.length)
def Po.atD (p:Po) (d:De):Po:=⟨d,p.most,p.R,p.T,p.W,p.G,p.last,p.cl⟩
def kI (mn:Int) (O:List (List Int)) (e:Nat) (p:Po) (k v:Int):Po×Nat×Ob:=
 if p.cl=true then(p,4,(0,0)) else
 if mG p k=false∨vQ p v=false then(p,2,(0,0)) else
 if p.W≠[] then((mY p).1,(mY p).2,(0,0)) else
 if (takeD mn O e p.d k v false).2.1=0 then
  (⟨(takeD mn O e p.d k v false).1,p.most,p.R,p.T++[(takeD mn O e p.d k v false).2.2],p.W,p.G,p.last,p.cl⟩,0,(takeD mn O e p.d k v false).2.2) else
 match p.R.getLast? with
 |none=>((mY (p.atD (takeD mn O e p.d k v false).1)).1,(mY (p.atD (takeD mn O e p.d k v false).1)).2,(0,0))
 |some o=>(⟨(takeD mn O e p.d k v false).1,p.most,p.R.dropLast,p.T++[o],p.W,p.G,p.last,p.cl⟩,0,o)
def Cj (e:Nat) (p:Po) (k:Int) (o:Ob):Po×Nat:=
 match p.W with
 |t::W=>(⟨p.d,p.most,p.R,p.T.erase o,W,p.G++[(t,o)],p.last,p.cl⟩,0)
 |[]=>if p.R.length<p.most then(⟨p.d,p.most,p.R++[o],p.T.erase o,[],p.G,p.last,p.cl⟩,0)
  else(⟨(lI e p.d k o).1,p.most,p.R,p.T.erase o,[],p.G,p.last,p.cl⟩,(lI e p.d k o).2)
def lZ (e:Nat) (p:Po) (k:Int) (o:Ob):Po×Nat:=
 if p.cl=true then(p,4) else if mG p k=false then(p,2) else if o∈p.T then Cj e p k o else(p,9)
def pV (G:List (Int×Ob)) (t:Int):Option Ob:=(G.find? fun g=>g.1==t).map (·.2)
def Jg (G:List (Int×Ob)) (t:Int):List (Int×Ob):=G.filter fun g=>g.1 !=t
def Po.fetch (p:Po) (t:Int) (o:Ob):Po:=⟨p.d,p.most,p.R,p.T++[o],p.W,Jg p.G t,p.last,p.cl⟩
def nS (p:Po) (t:Int):Po×Nat×Bool×Ob:=
 if p.cl=true then(p,4,false,(0,0)) else if t∈p.W then(p,0,false,(0,0)) else
 match pV p.G t with
 |none=>(p,4,false,(0,0))
 |some o=>(p.fetch t o,0,true,o)
def oV (e:Nat) (p:Po) (t:Int):Po×Nat:=
 if p.cl=true then(p,4) else if t∈p.W then(⟨p.d,p.most,p.R,p.T,p.W.erase t,p.G,p.last,p.cl⟩,0) else
 match pV p.G t with
 |none=>(p,4)
 |some o=>lZ e (p.fetch t o) 0 o
def mF (e:Nat) (d:De) (l:List Ob):De:=l.foldl (fun d o=>(lI e d 0 o).1) d
def wh (e:Nat) (p:Po):Po×Nat:=
 if p.cl=true then(p,4) else if 0<p.T.length+p.W.length+p.G.length then(p,6) else
 (⟨mF e p.d p.R,p.most,[],p.T,p.W,p.G,p.last,true⟩,0)
def Po.obs (p:Po):List Ob:=p.R++(p.T++p.G.map (·.2))
structure nX (e:Nat) (p:Po):Prop where
 inv:pU e p.d
 mo: ∃l,MoI e l p.d∧∀x∈p.obs,x∈l
 nd:p.obs.Nodup
 m1:1≤p.most∧p.most≤16
 r:p.R.length≤p.most
 w:p.W.length≤8
 asc:p.W.Pairwise (· < ·)
 wl: ∀t∈p.W,1≤t∧t≤p.last
 gn:(p.G.map (·.1)).Nodup
 gl: ∀g∈p.G,1≤g.1∧g.1≤p.last
 wg: ∀g∈p.G,g.1∉p.W
 l0:0≤p.last
section
variable {mn:Int} {O:List (List Int)} {e:Nat} {p:Po} {k v t:Int} {o:Ob} {d:De}
theorem JX {c:Ca} {u:Bool} (h0:0≤v) (h1:v<c.L.length):(takeC mn O e c v u).2.1=0∨(takeC mn O e c v u).2.1=5∨(takeC mn O e c v u).2.1=7:=by
 unfold takeC;rw[if_neg om];cases hb:oh v c.C c.C.length with
 |some i=>
  obtain⟨_,s,hs,_⟩:=mV hb;simp[hs]
 |none=>
  simp only;split
  ·simp
  ·rename_i hz
   show(lQ mn O c.L v 0 u).2.1=0∨(lQ mn O c.L v 0 u).2.1=5∨(lQ mn O c.L v 0 u).2.1=7;unfold lQ;rw[if_neg om];split
   ·right;unfold Eh;split<;>simp
   split
   ·simp
   split<;>simp
theorem yx (h0:0≤k) (h1:k<d.H.length):(p8 d k).isSome=true:=by
 unfold p8;rw[if_neg om,aA om];rfl
theorem JY {u:Bool} (h0:0≤k) (h1:k<d.H.length) (v0:0≤v) (v1:v<d.c.L.length):(takeD mn O e d k v u).2.1=0∨(takeD mn O e d k v u).2.1=5∨(takeD mn O e d k v u).2.1=7:=by
 obtain⟨g,hg⟩:=iy.1 (yx h0 h1);cases hl:(ni g d.P).1.1.getLast? with
 |some o=>rw[nI hg hl];simp
 |none=>rw[o8 hg hl];exact JX v0 v1
theorem nX.TD (h:nX e p):nX e (mY p).1:=by
 unfold mY;split
 ·exact h
 ·have hl:=h.l0
  refine⟨h.inv,h.mo,h.nd,h.m1,h.r,by simp;omega,?_,fun t ht=> ?_,h.gn,fun g hg=> ?_,fun g hg q=> ?_,by simp only;omega⟩
  ·rw[dV]
   refine⟨h.asc,sI,fun a ha b hb=> ?_⟩;simp at hb;have:=(h.wl a ha).2;omega
  ·rcases aD.1 ht with q|q
   ·have:=h.wl t q;simp only;omega
   ·simp at q;simp only;omega
  ·have:=h.gl g hg;simp only;omega
  ·rcases aD.1 q with q|q
   ·exact h.wg g hg q
   ·simp at q;have:=h.gl g hg;omega
theorem nX.atD (h:nX e p) {l:List Ob} (hI:pU e d) (hm:MoI e l d) (hs: ∀x∈p.obs,x∈l):nX e (p.atD d):=
 ⟨hI,⟨l,hm,hs⟩,h.nd,h.m1,h.r,h.w,h.asc,h.wl,h.gn,h.gl,h.wg,h.l0⟩
theorem nX.take (hO:rM O p.d.c.L.length) (h:nX e p) (k v:Int):nX e (kI mn O e p k v).1:=by
 unfold kI;split
 ·exact h
 split
 ·exact h
 split
 ·exact h.TD
 obtain⟨l,hm,hs⟩:=h.mo;have hI:=sw (mn:=mn) (O:=O) (k:=k) (v:=v) (u:=false) hO h.inv;have ht:=MoI.take (mn:=mn) (O:=O) hO h.inv hm k v false;split
 ·rename_i h0
  rcases ht with⟨_,h1,h2⟩|⟨h1,_⟩
  ·have hn:(takeD mn O e p.d k v false).2.2∉p.obs:=fun q=>h1 (hs _ q)
   refine⟨hI,⟨_,h2,fun x hx=> ?_⟩,?_,h.m1,h.r,h.w,h.asc,h.wl,h.gn,h.gl,h.wg,h.l0⟩
   ·unfold Po.obs at hx
    simp only[aD,bL] at hx ⊢;have:=hs x;unfold Po.obs at this;simp only[aD] at this;rcases hx with q|(q|q)|q
    ·exact .inl (this (.inl q))
    ·exact .inl (this (.inr (.inl q)))
    ·exact .inr q
    ·exact .inl (this (.inr (.inr q)))
   ·have e1:(⟨(takeD mn O e p.d k v false).1,p.most,p.R,p.T++[(takeD mn O e p.d k v false).2.2],p.W,p.G,p.last,p.cl⟩:Po).obs.Perm ((takeD mn O e p.d k v false).2.2::p.obs):=by
     unfold Po.obs;simp only;refine List.Perm.trans ?_ iB;refine gV _ ?_;rw[bT];exact iB
    exact e1.nodup_iff.2 (aS.2 ⟨hn,h.nd⟩)
  ·exact absurd h0 h1
 ·rename_i h0
  rcases ht with⟨h1,_⟩|⟨_,h2⟩
  ·exact absurd h1 h0
  ·cases hr:p.R.getLast? with
   |none=>exact(h.atD hI h2 hs).TD
   |some o=>
    have er:p.R=p.R.dropLast++[o]:=by
     obtain⟨hne,hx⟩:=gY.1 hr;rw[hx];simp
    have e1:(⟨(takeD mn O e p.d k v false).1,p.most,p.R.dropLast,p.T++[o],p.W,p.G,p.last,p.cl⟩:Po).obs.Perm p.obs:=by
     unfold Po.obs;simp only;conv=>rhs;rw[er]
     rw[bT,bT];refine gV _ ?_;exact iB
    refine⟨hI,⟨l,h2,fun x hx=>hs x (e1.mem_iff.1 hx)⟩,e1.nodup_iff.2 h.nd,h.m1,?_,h.w,h.asc,h.wl,h.gn,h.gl,h.wg,h.l0⟩;simp only[List.length_dropLast];have:=h.r;omega
theorem perm_obs {R T:List Ob} {G:List (Int×Ob)} (o:Ob) (t:Int):(R++(T++(G++[(t,o)]).map (·.2))).Perm (o::(R++(T++G.map (·.2)))):=by
 simp only[dz,bH,eu];rw[←bT,←bT];refine jF.trans ?_;simp
theorem Im (h:o∈p.T):p.obs.Perm (o::(p.R++(p.T.erase o++p.G.map (·.2)))):=by
 unfold Po.obs;refine List.Perm.trans ?_ iB;exact gV _ ((List.perm_cons_erase h).append_right _)
theorem nX.back (h:nX e p) (ho:o∈p.T) (hk:mG p k=true):nX e (Cj e p k o).1:=by
 have pe:=Im ho;have nd:=pe.nodup_iff.1 h.nd;obtain⟨n1,n2⟩:=aS.1 nd;obtain⟨l,hm,hs⟩:=h.mo;unfold Cj;split
 ·rename_i t W hW
  have hw:=h.w;have ha:=h.asc;rw[hW] at hw ha;have e1:(⟨p.d,p.most,p.R,p.T.erase o,W,p.G++[(t,o)],p.last,p.cl⟩:Po).obs.Perm p.obs:=(perm_obs o t).trans pe.symm;refine⟨h.inv,⟨l,hm,fun x hx=>hs x (e1.mem_iff.1 hx)⟩,e1.nodup_iff.2 h.nd,h.m1,h.r,by simp at hw ⊢;omega,(bN.1 ha).2,fun s q=>h.wl s (by rw[hW];exact ak _ q),?_,fun g hg=> ?_,fun g hg q=> ?_,h.l0⟩
  ·simp only[dz,bH,eu]
   rw[bF];refine⟨h.gn,sI,fun a ha' b hb q=> ?_⟩;simp at hb;subst hb q;obtain⟨g,hg,hge⟩:=bC.1 ha';exact h.wg g hg (by rw[hge,hW];exact aG ..)
  ·rcases aD.1 hg with q|q
   ·exact h.gl g q
   ·simp at q;subst q;exact h.wl t (by rw[hW];exact aG ..)
  ·rcases aD.1 hg with r|r
   ·exact h.wg g r (by rw[hW];exact ak _ q)
   ·simp at r;subst r
    have:=(bN.1 ha).1 _ q;simp at this
 ·rename_i hW
  split
  ·rename_i hr
   have e1:(⟨p.d,p.most,p.R++[o],p.T.erase o,[],p.G,p.last,p.cl⟩:Po).obs.Perm p.obs:=by
    refine List.Perm.trans ?_ pe.symm;unfold Po.obs;simp only;rw[bT];exact iB
   exact⟨h.inv,⟨l,hm,fun x hx=>hs x (e1.mem_iff.1 hx)⟩,e1.nodup_iff.2 h.nd,h.m1,by simp;omega,sI,List.Pairwise.nil,fun s q=>(by cases q),h.gn,h.gl,fun g hg q=>(by cases q),h.l0⟩
  ·unfold mG at hk
   simp at hk;obtain⟨i,hi,hx⟩:=iP.1 (hs o (pe.mem_iff.2 (aG ..)));have hg:=hm.give (k:=k) (yx hk.1 hk.2) (au.2 ⟨hi,hx⟩);refine⟨yO h.inv,⟨_,hg,fun x hx'=> ?_⟩,n2,h.m1,h.r,sI,List.Pairwise.nil,fun s q=>(by cases q),h.gn,h.gl,fun g hg q=>(by cases q),h.l0⟩;refine(Ga hm.nd (au.2 ⟨hi,hx⟩) x).2 ⟨hs x (pe.mem_iff.2 (ak _ hx')),fun q=> ?_⟩;subst q;exact n1 hx'
theorem nX.give (h:nX e p) (k:Int) (o:Ob):nX e (lZ e p k o).1:=by
 unfold lZ;split
 ·exact h
 split
 ·exact h
 rename_i hw;split
 ·rename_i ho
  exact h.back ho (by simpa using hw)
 ·exact h
theorem Wv (h:pV p.G t=some o):(t,o)∈p.G:=by
 unfold pV at h;rw[dh] at h;obtain⟨g,h1,rfl⟩:=h;have h2:=gU h1;simp at h2;subst h2;exact dJ h1
theorem Ww {G:List (Int×Ob)} (hn:(G.map (·.1)).Nodup) (h:(t,o)∈G):G.Perm ((t,o)::Jg G t):=by
 induction G with
 |nil=>cases h
 |cons a G ih=>
  rw[bH,aS] at hn;unfold Jg at ih ⊢;rw[gH];rcases aB.1 h with q|q
  ·subst q
   have hf:G.filter (fun g=>g.1 !=t)=G:=by
    rw[dN];intro g hg;simp only[bne_iff_ne,ne_eq];intro r;exact hn.1 (bC.2 ⟨g,hg,r⟩)
   simp[hf]
  ·have hne:a.1≠t:=fun r=>hn.1 (bC.2 ⟨_,q,r.symm⟩)
   simp only[bne_iff_ne,ne_eq,hne,not_false_eq_true,if_true];exact((ih hn.2 q).cons a).trans (List.Perm.swap ..)
theorem nX.fetch (h:nX e p) (hf:pV p.G t=some o):nX e (p.fetch t o)∧o∉p.T:=by
 have hm:=Wv hf;have pg:=Ww h.gn hm;have e1:(p.fetch t o).obs.Perm p.obs:=by
  unfold Po.obs Po.fetch;simp only;refine gV _ ?_;rw[bT];refine gV _ ?_;exact(pg.map (·.2)).symm
 obtain⟨l,h1,h2⟩:=h.mo;have gs: ∀g∈Jg p.G t,g∈p.G∧g.1≠t:=fun g hg=>by
  unfold Jg at hg;simpa using hg
 refine⟨⟨h.inv,⟨l,h1,fun x hx=>h2 x (e1.mem_iff.1 hx)⟩,e1.nodup_iff.2 h.nd,h.m1,h.r,h.w,h.asc,h.wl,h.gn.sublist ((gF).map _),fun g hg=>h.gl g (gs g hg).1,fun g hg=>h.wg g (gs g hg).1,h.l0⟩,fun q=> ?_⟩;have nd:=h.nd;unfold Po.obs at nd;have:=(bF.1 (bF.1 nd).2.1).2.2 o q o (bC.2 ⟨_,hm,rfl⟩);exact this rfl
theorem nX.ready (h:nX e p) (t:Int):nX e (nS p t).1:=by
 unfold nS;split
 ·exact h
 split
 ·exact h
 split
 ·exact h
 ·rename_i o hf
  exact(h.fetch hf).1
theorem nX.cancel (h:nX e p) (t:Int):nX e (oV e p t).1:=by
 unfold oV;split
 ·exact h
 split
 ·have hs:(p.W.erase t).Sublist p.W:=List.erase_sublist
  exact⟨h.inv,h.mo,h.nd,h.m1,h.r,bW hs.length_le h.w,h.asc.sublist hs,fun s q=>h.wl s (hs.subset q),h.gn,h.gl,fun g hg q=>h.wg g hg (hs.subset q),h.l0⟩
 split
 ·exact h
 ·rename_i o hf
  exact(h.fetch hf).1.give 0 o
end
