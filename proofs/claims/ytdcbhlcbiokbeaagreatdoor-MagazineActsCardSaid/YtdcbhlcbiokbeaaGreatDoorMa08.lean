/- Lemmas and contracts for the claim's last text: SOps, SRow, SIns, Cut. -/
import Derived.Test.YtdcbhlcbiokbeaaGreatDoorMa01
import Derived.Test.YtdcbhlcbiokbeaaGreatDoorMa03
import Derived.Test.YtdcbhlcbiokbeaaGreatDoorMa07
set_option linter.unusedSimpArgs false
set_option linter.unusedVariables false
set_option maxHeartbeats 16000000
set_option maxRecDepth 100000
namespace Go.Proofs.YtdcbhlcbiokbeaaGreatDoor
section
open Go.RowKit
attribute [local go_sem ↓] aW aX
def Fg (n a m b:Int):Int:=if uF n m=0 then uF a b else uF n m
theorem Fh (a b:Int):(uF a b<0↔a<b)∧(uF a b=0↔a=b):=by
 unfold uF
 split
 ·omega
 ·split<;>omega
theorem ordP_lt (s:Sl) (j a:Int):decide (Fg s.nd s.pg j a<0)=decide (ltP s j a):=by
 obtain⟨p1,p2⟩:=Fh s.nd j
 obtain⟨q1,q2⟩:=Fh s.pg a
 rw[Bool.eq_iff_iff]
 simp only[decide_eq_true_eq]
 unfold Fg ltP
 split
 ·rename_i h
  rw[p2] at h;rw[q1]
  constructor
  ·intro q;exact .inr ⟨h,q⟩
  ·rintro(q|⟨_,q⟩)
   ·omega
   ·exact q
 ·rename_i h
  rw[p2] at h;rw[p1]
  constructor
  ·intro q;exact .inl q
  ·rintro(q|⟨q,_⟩)
   ·exact q
   ·exact absurd q h
theorem or_two (g:Nat) (x y:Int) (w:World) (h0:w.cell? ⟨g,0,none⟩=some (.int .i64 x)) (h1:w.cell? ⟨g,1,none⟩=some (.int .i64 y)) (hl:g<w.heap.size):
 Calls Tryz.prog 252 #[.slice (some ⟨g,0,none⟩) 2 2] w fun e w'=>e= .returned (.int .i64 (if x=0 then y else x))∧w=w':=by
 by_cases hx:x=0
 ·have d0:(x !=0)=false:=by simp[hx]
  rw[if_pos hx]
  by_cases hy:y=0
  ·have d1:(y !=0)=false:=by simp[hy]
   rw[hy]
   subst hx hy
   go_enter Tryz.func252,Tryz.ntmps252
   go_wp2
   go_loop [5,8] (fun _ iv=>∃i:Nat,i≤2∧iv= .int .i64 i) (fun _ iv=>2-(intOf iv).toNat)
   case atStart=>exact⟨0,om,by go_num⟩
   case round=>
    obtain⟨i,hi,rfl⟩:=hrel
    rcases(show i=0∨i=1∨i=2 by omega) with rfl|rfl|rfl
    ·go_wp2
     go_round
     case rel=>exact⟨1,om,by go_num⟩
     case measure=>simp[intOf]
    ·go_wp2
     go_round
     case rel=>exact⟨2,om,by go_num⟩
     case measure=>simp[intOf]
    ·go_wp2
     go_ret
     exact⟨rfl,rfl⟩
  ·have d1:(y !=0)=true:=by simp[hy]
   subst hx
   go_enter Tryz.func252,Tryz.ntmps252
   go_wp2
   go_loop [5,8] (fun _ iv=>∃i:Nat,i≤1∧iv= .int .i64 i) (fun _ iv=>2-(intOf iv).toNat)
   case atStart=>exact⟨0,om,by go_num⟩
   case round=>
    obtain⟨i,hi,rfl⟩:=hrel
    rcases(show i=0∨i=1 by omega) with rfl|rfl
    ·go_wp2
     go_round
     case rel=>exact⟨1,om,by go_num⟩
     case measure=>simp[intOf]
    ·go_wp2
     go_ret
     exact⟨rfl,rfl⟩
 ·have d0:(x !=0)=true:=by simp[hx]
  rw[if_neg hx]
  clear hx
  go_enter Tryz.func252,Tryz.ntmps252
  go_wp2
  go_loop [5,8] (fun _ iv=>iv= .int .i64 0) (fun _ _=>0)
  case atStart=>rfl
  case round=>
   subst hrel
   go_wp2
   go_ret
   exact⟨rfl,rfl⟩
theorem Aw (n a k m b l:Int) (w:World):
 Calls Tryz.prog 213 #[.agg #[.int .i64 n,.int .i64 a,.int .i64 k],.agg #[.int .i64 m,.int .i64 b,.int .i64 l]] w fun e w'=>e= .returned (.int .i64 (Fg n a m b))∧Below w.heap.size w w':=by
 have CC:Hid (∀(x y:Int) (W:World),Calls Tryz.prog 208 #[.int .i64 x,.int .i64 y] W fun e w'=>e= .returned (.int .i64 (uF x y))∧w'=W):=fun x y W=>(qE x y W).mono fun e w' ⟨h1,h2⟩=>⟨h1,h2.symm⟩
 obtain⟨c1,hc1⟩: ∃c1,c1=uF n m:=⟨_,rfl⟩
 obtain⟨c2,hc2⟩: ∃c2,c2=uF a b:=⟨_,rfl⟩
 have CA:Hid (∀W,Calls Tryz.prog 208 #[.int .i64 n,.int .i64 m] W fun e w'=>e= .returned (.int .i64 c1)∧w'=W):=fun W=>by rw[hc1];exact CC.out n m W
 have CB:Hid (∀W,Calls Tryz.prog 208 #[.int .i64 a,.int .i64 b] W fun e w'=>e= .returned (.int .i64 c2)∧w'=W):=fun W=>by rw[hc2];exact CC.out a b W
 have hp:Fg n a m b=if c1=0 then c2 else c1:=by unfold Fg;rw[hc1,hc2]
 rw[hp]
 clear hc1 hc2 hp CC
 go_enter Tryz.func213,Tryz.ntmps213
 go_wp2_with fail
 refine jR 12 kR kR ?_
 simp only[aV,bB,aS,bq]
 iterate 4 still_step
 still_call (CA.out _)
 iterate 6 still_step
 still_call (CB.out _)
 refine wpStill_nil ?_
 go_wp2_with fail
 refine(or_two (w.heap.size+1+1) c1 c2 _ (by rw[eO,aK _ _ _ _ sI];rfl) (by rw[eO,aK _ _ _ _ sI];rfl) sI).mono ?_
 rintro e w1 ⟨rfl,rfl⟩
 go_wp2
 all_goals
  go_ret
  exact⟨rfl,iB⟩
theorem wU {X:List Nat} (T:List Bool) (g k:Nat) (w:World) (h:iy w g (bools T)) (hf:iO T=k) (hm:jG T<T.length) (hl:T.length≤64):
 Calls Tryz.prog 117 #[.slice (some ⟨g,0,none⟩) T.length T.length,.bool false] w fun e w'=>e= .returned (.int .i64 k)∧w=w':=by
 obtain⟨s1,s2,s3⟩:=jr hm
 rw[hf] at s1 s2 s3
 have ck:=h.c k _ (jk s2)
 have CB:Hid (∀j,j<k→w.cell? ⟨g,j,none⟩=some (.bool true)):=fun j hj=>h.c j _ (jk (s3 j hj))
 have lt:=h.lt
 obtain⟨n,hn⟩: ∃n,n=T.length:=⟨_,rfl⟩
 rw[←hn] at s1 hl ⊢
 clear h hf hm s2 s3 hn
 go_enter Tryz.func117,Tryz.ntmps117
 go_wp2
 go_loop [5,8] (fun _ iv=>∃j:Nat,j≤k∧iv= .int .i64 j) (fun _ iv=>n-(intOf iv).toNat)
 case atStart=>exact⟨0,om,by go_num⟩
 case round=>
  obtain⟨j,hj,rfl⟩:=hrel
  have j0:(0:Int)≤(j:Int):=om
  have j1:(j:Int)<(n:Int):=om
  by_cases hjk:j<k
  ·have cj:=CB.out j hjk
   go_wp2
   go_round
   case rel=>exact⟨j+1,om,by go_num⟩
   case measure=>simp[intOf];omega
  ·obtain rfl:j=k:=by omega
   go_wp2
   go_ret
   exact⟨rfl,rfl⟩
theorem nQ.cells {w:World} {p:Nat×Nat} {s:Sl} (h:nQ w p s):w.cell? ⟨p.1,0,none⟩=some (.int .i64 s.nd)∧w.cell? ⟨p.1,1,none⟩=some (.int .i64 s.pg)∧w.cell? ⟨p.1,2,none⟩=some (.int .i64 0)∧w.cell? ⟨p.1,3,none⟩=some (.slice (some ⟨p.2,0,none⟩) s.T.length s.T.length)∧w.cell? ⟨p.1,4,none⟩=some (.int .i64 (iD s))∧p.1<w.heap.size∧p.2<w.heap.size:=
 ⟨h.1.c 0 _ rfl,h.1.c 1 _ rfl,h.1.c 2 _ rfl,h.1.c 3 _ rfl,h.1.c 4 _ rfl,h.1.lt,h.2.lt⟩
def growF:Value:=.func (.func 212) #[] #[]
theorem yX (p:Nat×Nat) (s:Sl) (j a:Int) (w:World) (h:nQ w p s):
 Calls Tryz.prog 212 #[.pointer (some ⟨p.1,0,none⟩),.agg #[.int .i64 j,.int .i64 a,.int .i64 0]] w fun e w'=>e= .returned (.int .i64 (Fg s.nd s.pg j a))∧Below w.heap.size w w':=by
 have b0:Below w.heap.size w (w.alloc (.cells #[.int .i64 j,.int .i64 a,.int .i64 0] 61)):=iB
 have HB0:=ah b0
 obtain⟨c0,c1,c2,_,_,l1,_⟩:=nQ.cells h
 have l2:p.1≠w.heap.size:=om
 have l3:p.1<w.heap.size+1:=om
 have LP:iy (w.alloc (.cells #[.int .i64 j,.int .i64 a,.int .i64 0] 61)) w.heap.size [.int .i64 j,.int .i64 a,.int .i64 0]:=iy.mk_ w [.int .i64 j,.int .i64 a,.int .i64 0] 61 rfl
 have p0:=LP.c 0 _ rfl;have p1:=LP.c 1 _ rfl;have p2:=LP.c 2 _ rfl;have pl:=LP.lt
 have OR:=ah (fun W=>Aw s.nd s.pg 0 j a 0 W)
 obtain⟨x,hx⟩: ∃x,x=Fg s.nd s.pg j a:=⟨_,rfl⟩
 rw[←hx] at OR ⊢
 clear h b0 LP hx
 go_enter Tryz.func212,Tryz.ntmps212
 go_wp2_with fail
 refine iC kR kR ?_
 repeat(go_big_quiet_step (((go_at_call 213;exact Calls.behind (OR.out _)))))
 refine wpQuiet_nil ?_
 intro w1 hw'
 have hb1:=iZ hw'
 clear hw'
 obtain⟨c1,f1⟩:=qD hb1;have z1:=hb1.size;try simp at z1 c1 f1
 go_wp2
 go_ret
 exact⟨rfl,HB0.out.trans (hb1.mono sI)⟩
def hitS (j a:Int) (C:List Sl):Bool:=match C[oK j a C]? with
 |some s=>Fg s.nd s.pg j a==0
 |none=>false
theorem D7 {X:List Nat} {B:Nat} {pc pz e:Nat} {v:Value} {A:SA} {C:List Sl} (j a:Int) (w:World) (h:uY X B w pc pz e v A C) (hp:C.Pairwise ltS) (hn:C.length≤1024):
 Calls Tryz.prog 211 #[v,.agg #[.int .i64 j,.int .i64 a,.int .i64 0],growF] w fun r w'=>r= .returned (.tuple #[.int .i64 (oK j a C),.bool (hitS j a C)])∧Below w.heap.size w w':=by
 obtain⟨q,k,rfl,hk1,hk2,hrow⟩:=h.form
 have HC:=ah h;have rR:=ah hrow
 have hle:=sw j a C
 have PL:Hid (∀(i:Nat) (s:Sl),i<oK j a C→C[i]?=some s→ltP s j a):=fun i s hi hs=>Aj hi hs
 have PG:Hid (∀(i:Nat) (s:Sl),oK j a C≤i→C[i]?=some s→¬ltP s j a):=fun i s hi hs=>EY hp hi hs
 obtain⟨n,hnn⟩: ∃n,n=C.length:=⟨_,rfl⟩
 have EN:=ah hnn
 obtain⟨m,hm⟩: ∃m,m=oK j a C:=⟨_,rfl⟩
 rw[←hnn] at hn hk1 hle ⊢
 have HT1:Hid (∀s,C[oK j a C]?=some s→hitS j a C=(Fg s.nd s.pg j a==0)):=fun s hs=>by unfold hitS;rw[hs]
 have HT2:Hid (C.length≤oK j a C→hitS j a C=false):=fun hl=>by unfold hitS;rw[gQ hl]
 obtain⟨bb,hbb⟩: ∃bb,bb=hitS j a C:=⟨_,rfl⟩
 rw[←hbb] at HT1 HT2 ⊢
 rw[←hm] at PL PG HT1 HT2 hle ⊢
 clear hbb
 have LP:=ah (show iy (w.alloc (.cells #[.int .i64 j,.int .i64 a,.int .i64 0] 61)) w.heap.size [.int .i64 j,.int .i64 a,.int .i64 0] from iy.mk_ w [.int .i64 j,.int .i64 a,.int .i64 0] 61 rfl)
 have HB0:=ah (show Below w.heap.size w (w.alloc (.cells #[.int .i64 j,.int .i64 a,.int .i64 0] 61)) from iB)
 unfold maxLen at hk2
 unfold growF
 clear h hp hrow hnn hm
 go_enter Tryz.func211,Tryz.ntmps211
 go_wp2_with fail
 go_loopw [9,10] (fun iv jv wr=>∃x y:Nat,x≤m∧m≤y∧y≤n∧iv= .int .i64 x∧jv= .int .i64 y∧Hid (iy wr w.heap.size [.int .i64 j,.int .i64 a,.int .i64 0])∧Below w.heap.size w wr) (fun iv jv _=>(intOf jv-intOf iv).toNat)
 case atStart=>exact⟨0,n,om,hle,aI _,by go_num,rfl,LP,HB0.out⟩
 case round=>
  obtain⟨x,y,hx,hy,hyn,rfl,rfl,HL,hbel⟩:=hrel
  have p0:=HL.out.c 0 _ rfl;have p1:=HL.out.c 1 _ rfl;have p2:=HL.out.c 2 _ rfl;have pl:=HL.out.lt
  by_cases hxy:x<y
  ·obtain⟨d,hd⟩: ∃d,d=(x+y) / 2:=⟨_,rfl⟩
   have d1:x≤d:=om
   have d2:d<y:=om
   obtain⟨s,hs⟩: ∃s,C[d]?=some s:=⟨C[d]'(by rw[←EN.out];omega),au _⟩
   obtain⟨p,hp,hsl,_⟩:=(HC.out.below hbel).at hs
   obtain⟨g,rfl,hg,hc0⟩:=rR.out d p hp
   have ck:wr.cell? ⟨g,d,none⟩=some (.pointer (some ⟨p.1,0,none⟩)):=(hbel.cell (p:=⟨g,d,none⟩) hg).trans hc0
   have gl:g<wr.heap.size:=aF hg hbel.size
   have G1:=ah (fun W (b:Below wr.heap.size wr W)=>yX p s j a W (hsl.keep (Keep.of (S:=[]) b) sI sI))
   have hdi:((x:Int)+(y:Int)) / 2=(d:Int):=om
   have hdk:d<k:=om
   have HPL:=ah (PL.out d s);have HPG:=ah (PG.out d s);have HS:=ah hs;have HD:=ah hd
   obtain⟨r,hr⟩: ∃r,r=Fg s.nd s.pg j a:=⟨_,rfl⟩
   have HR:=ah (show decide (r<0)=decide (ltP s j a) by rw[hr];exact ordP_lt s j a)
   rw[←hr] at G1
   clear hr hsl hs hd hc0 hp
   have LW:Hid (∀W,Below wr.heap.size wr W→iy W w.heap.size [.int .i64 j,.int .i64 a,.int .i64 0]∧Below w.heap.size w W):=fun W b=>⟨HL.out.go b,hbel.trans (b.mono hbel.size)⟩
   cases hlt:decide (r<0) with
   |true=>
    go_wp2_with fail
    refine iC kR kR ?_
    repeat(go_big_quiet_step (((go_at_call 212;exact Calls.behind (G1.out _ (Behind.h _))))))
    refine wpQuiet_nil ?_
    intro w4 hw'
    have hb4:=iZ hw'
    clear hw'
    obtain⟨c4,f4⟩:=qD hb4;have z4:=hb4.size;try simp at z4 c4 f4
    go_wp2
    go_round
    case rel=>
     have hdm:d<m:=Nat.lt_of_not_le fun q=>HPG.out q HS.out (by have:=HR.out;rw[hlt] at this;exact of_decide_eq_true this.symm)
     exact⟨d+1,y,om,om,hyn,by go_num,rfl,(LW.out _ aM).1,(LW.out _ aM).2⟩
    case measure=>simp[intOf];omega
   |false=>
    go_wp2_with fail
    refine iC kR kR ?_
    repeat(go_big_quiet_step (((go_at_call 212;exact Calls.behind (G1.out _ (Behind.h _))))))
    refine wpQuiet_nil ?_
    intro w5 hw'
    have hb5:=iZ hw'
    clear hw'
    obtain⟨c5,f5⟩:=qD hb5;have z5:=hb5.size;try simp at z5 c5 f5
    go_wp2
    go_round
    case rel=>
     have hnl: ¬ltP s j a:=by have:=HR.out;rw[hlt] at this;exact of_decide_eq_false this.symm
     have hdm:m≤d:=Nat.le_of_not_lt fun q=>hnl (HPL.out q HS.out)
     exact⟨x,d,hx,hdm,om,rfl,rfl,(LW.out _ aM).1,(LW.out _ aM).2⟩
    case measure=>simp[intOf];omega
  ·obtain rfl:x=m:=by omega
   have BW:Hid (∀W,Below wr.heap.size wr W→Below w.heap.size w W):=fun W b=>hbel.trans (b.mono hbel.size)
   by_cases hxn:x<n
   ·obtain⟨s,hs⟩: ∃s,C[x]?=some s:=⟨C[x]'(by rw[←EN.out];omega),au _⟩
    obtain⟨p,hp,hsl,_⟩:=(HC.out.below hbel).at hs
    obtain⟨g,rfl,hg,hc0⟩:=rR.out x p hp
    have ck:wr.cell? ⟨g,x,none⟩=some (.pointer (some ⟨p.1,0,none⟩)):=(hbel.cell (p:=⟨g,x,none⟩) hg).trans hc0
    have gl:g<wr.heap.size:=aF hg hbel.size
    have G1:=ah (fun W (b:Below wr.heap.size wr W)=>yX p s j a W (hsl.keep (Keep.of (S:=[]) b) sI sI))
    have hdk:x<k:=om
    obtain⟨r,hr⟩: ∃r,r=Fg s.nd s.pg j a:=⟨_,rfl⟩
    have HB1:=HT1.out s hs
    rw[←hr] at G1 HB1
    clear HT1 HT2
    subst HB1
    clear hr hsl hs hc0 hp
    go_wp2_with fail
    refine iC kR kR ?_
    repeat(go_big_quiet_step (((go_at_call 212;exact Calls.behind (G1.out _ (Behind.h _))))))
    refine wpQuiet_nil ?_
    intro w6 hw'
    have hb6:=iZ hw'
    clear hw'
    obtain⟨c6,f6⟩:=qD hb6;have z6:=hb6.size;try simp at z6 c6 f6
    go_wp2
    go_ret2
    exact⟨rfl,BW.out _ aM⟩
   ·have hb0:=HT2.out (by rw[←EN.out];omega)
    clear HT1 HT2
    subst hb0
    obtain rfl:x=n:=om
    go_wp2_with fail
    go_quiet (fail)
    go_wp2
    go_ret2
    exact⟨rfl,BW.out _ iB⟩
end
section
open Go.RowKit
def Row1 (w:World) (g:Nat) (e:TypeId) (cs:List Value):Prop:=∃cur:Array Value,w.heap[g]?=some (.cells cur e (0,0))∧cur.toList=cs
theorem Row1.lt {w:World} {g:Nat} {e:TypeId} {cs:List Value} (h:Row1 w g e cs):g<w.heap.size:=by
 obtain⟨cur,h1,_⟩:=h
 rcases dH g w.heap.size with q|q
 ·exact q
 ·rw[dO q] at h1;cases h1
theorem Row1.keep {S:List Nat} {w w':World} {g:Nat} {e:TypeId} {cs:List Value} (h:Row1 w g e cs) (k:Keep S w w') (hg:g∉S):Row1 w' g e cs:=by
 have hl:=h.lt
 obtain⟨cur,h1,h2⟩:=h
 exact⟨cur,(k.block g hl hg).trans h1,h2⟩
theorem Row1.loc {w:World} {g:Nat} {e:TypeId} {cs:List Value} (h:Row1 w g e cs):iy w g cs:=by
 have hl:=h.lt
 obtain⟨cur,h1,rfl⟩:=h
 refine⟨hl,fun j u hj=> ?_,fun j hj=> ?_⟩
 ·simp only[World.cell?,h1]
  simpa using hj
 ·simp only[World.frozen?,h1]
  simp
theorem Row1.drew {w:World} {g:Nat} {e:TypeId} {cs:List Value} (h:Row1 w g e cs):Row1 w.drew g e cs:=h
theorem Row1.set {w:World} {g:Nat} {e:TypeId} {cs:List Value} (h:Row1 w g e cs) (o:Nat) (v:Value):Row1 (w.setCell ⟨g,o,none⟩ v) g e (cs.set o v):=by
 obtain⟨cur,h1,rfl⟩:=h
 refine⟨cur.setIfInBounds o v,?_,sI⟩
 simp only[World.setCell,eZ,h1]
 simp
theorem Row1.sets {g:Nat} {e:TypeId}: ∀(vs:List Value) {w:World} {cs:List Value} (o:Nat),Row1 w g e cs→o+vs.length≤cs.length→Row1 (w.setCells g o vs) g e (cs.take o++vs++cs.drop (o+vs.length))
 |[],w,cs,o,h,hl=>by simpa[World.setCells] using h
 |v::r,w,cs,o,h,hl=>by
  have:=Row1.sets r (o+1) (h.set o v) (by simp at hl ⊢;omega)
  rw[World.setCells]
  have e1:(cs.set o v).take (o+1)++r++(cs.set o v).drop (o+1+r.length)=cs.take o++v::r++cs.drop (o+(r.length+1)):=by
   simp at hl
   apply gM
   intro i
   simp only[List.getElem?_append,aU,aQ,bM,dw,eY,List.getElem?_set,cu,List.getElem?_cons]
   rcases fH i o with q|q|q
   ·simp[show i<o+1 by omega,show i<min (o+1) cs.length+r.length by omega,show i<min (o+1) cs.length by omega,show i<min o cs.length+(r.length+1) by omega,show i<min o cs.length by omega,q,show o≠i by omega]
   ·subst q
    simp[show i<min (i+1) cs.length+r.length by omega,show i<min (i+1) cs.length by omega,show¬i<min i cs.length by omega,show i<min i cs.length+(r.length+1) by omega,show i<cs.length by omega,show i-min i cs.length=0 by omega]
   ·by_cases q2:i<o+1+r.length
    ·have a1:i<min (o+1) cs.length+r.length:=by omega
     have a2: ¬i<min (o+1) cs.length:=om
     have a3:i<min o cs.length+(r.length+1):=om
     have a4: ¬i<min o cs.length:=om
     have a5: ¬(i-min o cs.length=0):=om
     simp only[a1,a2,a3,a4,a5,if_true,if_false]
     rw[show i-min (o+1) cs.length=i-min o cs.length-1 by omega]
    ·have a1: ¬i<min (o+1) cs.length+r.length:=by omega
     have a3: ¬i<min o cs.length+(r.length+1):=om
     have a5: ¬(o=o+1+r.length+(i-(min (o+1) cs.length+r.length))):=om
     simp only[a1,a3,a5,if_false]
     rw[show o+1+r.length+(i-(min (o+1) cs.length+r.length))=o+(r.length+1)+(i-(min o cs.length+(r.length+1))) by omega]
  rw[e1] at this
  simpa using this
theorem mP {g:Nat}: ∀(vs:List Value) {S:List Nat} {w0 w:World} (o:Nat),Keep S w0 w→(g∈S∨w0.heap.size≤g)→Keep S w0 (w.setCells g o vs)
 |[],S,w0,w,o,k,h=>k
 |v::r,S,w0,w,o,k,h=>mP r (o+1) (k.setCell (p:=⟨g,o,none⟩) h v) h
theorem Row1.own {w:World} {B g:Nat} {e:TypeId} {cs:List Value} (h:Row1 w g e cs) (hB:B≤g) {n:Nat} (hn:n≤cs.length) (hm:cs.length≤maxLen):w.ownsRow B e 1 (.slice (some ⟨g,0,none⟩) n cs.length) n (cs.take n):=by
 obtain⟨cur,h1,rfl⟩:=h
 refine⟨by rw[aQ];omega,.inr ⟨g,_,cur,rfl,hB,h1,hn,hm,sI,sI⟩⟩
theorem BQ {w:World} {B g n cap:Nat} {e:TypeId} {us:List Value} (h:w.ownsRow B e 1 (.slice (some ⟨g,0,none⟩) n cap) n us): ∃rest,Row1 w g e (us++rest)∧(us++rest).length=cap∧us.length=n∧n≤cap∧cap≤maxLen∧B≤g:=by
 obtain⟨hl,h⟩:=h
 rcases h with⟨h,_⟩|⟨g',cap',cur,h,hB,h1,h2,h3,h4,h5⟩
 ·cases h
 ·injection h with e1 e2 e3
  injection e1 with e1
  injection e1 with e1
  subst e1 e3
  simp only[Nat.mul_one] at*
  refine⟨cur.toList.drop n,⟨cur,h1,by rw[←h5,bP]⟩,?_,hl,h2,h3,hB⟩
  rw[←h5,bP];simpa using h4
end
section
open Go.RowKit Go.Lib
theorem Fj {w:World} {b:Nat} {u:Value} (h:iy w b [u]):rY w (some ⟨b,0,none⟩) [u]:=
 .inr ⟨_,rfl,fun j x hj=>by
  rw[addr_add]
  cases j with
  |zero=>simp at hj;subst hj;exact h.c 0 _ rfl
  |succ j=>simp at hj⟩
def pJ (B:Nat) (v:Value) (us:List Value) (i:Nat) (u:Value) (w:World) (e:Ending) (w':World):Prop:=
 ∃q k,e= .returned (.slice q (us.length+1) k)∧w'.ownsRow B 208 1 (.slice q (us.length+1) k) (us.length+1) (us.take i++u::us.drop i)∧Keep (iF v) w w'∧∀y∈iF (.slice q (us.length+1) k),y∈iF v∨w.heap.size≤y
theorem rA:(Tryz.prog.info? 208).map (·.size)=some 1:=kR
theorem ins_end {B:Nat} (v:Value) (us:List Value) (u:Value) (vb:Nat) (w:World) (hown:w.ownsRow B 208 1 v us.length us) (hu1:u.oneCell'=true) (hl:us.length≤2000) (hv:iy w vb [u]) (hB:B≤w.heap.size):
 Calls Tryz.prog 214 #[v,.int .i64 us.length,.slice (some ⟨vb,0,none⟩) 1 1] w (pJ B v us us.length u w):=by
 have hsrc:rY w (some ⟨vb,0,none⟩) [u]:=Fj hv
 have HS:=ah hsrc;have HO:=ah hown;have HU:=ah hu1
 have FIN:Hid (∀q k w',w'.ownsRow B 208 1 (.slice q (us++[u]).length k) (us++[u]).length (us++[u])→w.grownBy w' v.ownBlock→((Value.slice q (us++[u]).length k).ownBlock=v.ownBlock∨(Value.slice q (us++[u]).length k).ownBlock=some w.heap.size)→pJ B v us us.length u w (.returned (.slice q (us.length+1) k)) w'):=fun q k w' h1 h2 h3=>by
  have e1:(us++[u]).length=us.length+1:=sI
  rw[e1] at h1 h3
  refine⟨q,k,rfl,by simpa using h1,jh h2,rZ h3⟩
 obtain⟨p,n,k,rfl,hpn⟩: ∃p n k,v= .slice p n k∧(n=us.length∧n≤k∧k≤maxLen):=by
  rcases hown.2 with⟨rfl,h3⟩|⟨g,cap,cur,rfl,hg,hh,hcap,hmax,_⟩
  ·exact⟨none,0,0,rfl,h3.symm,aI _,by unfold maxLen;omega⟩
  ·exact⟨_,_,_,rfl,rfl,hcap,hmax⟩
 obtain⟨rfl,hk,hm⟩:=hpn
 unfold maxLen at hm
 clear hsrc hown hu1 hv
 have n0:(0:Int)≤(us.length:Int):=om
 obtain⟨r,hr⟩: ∃r:Value,r= .slice p us.length k:=⟨_,rfl⟩
 go_enter Tryz.func214,Tryz.ntmps214
 go_wp2_with (first|(at_builtin;refine mH (base:=B) (v:=.slice p us.length k) (us:=us) (ms:=[u]) (p:=some ⟨vb,0,none⟩) elSlab rfl (.tmp 23) (.tmp 24) rf rf 1 rf rfl HO.out HS.out (by intro x hx;simp at hx;subst hx;exact HU.out) (by simp;omega) hB ?_;intro q2 k2 w2 hown2 hg2 ho2))
 all_goals
  have HF:=ah (FIN.out q2 k2 w2 hown2 hg2 ho2)
  clear hown2 hg2 ho2 FIN
  go_wp2
  go_ret
  first
  |(simpa using HF.out;done)
  |(have hkk:k=us.length:=by assumption
    subst hkk
    simpa using HF.out)
theorem Fp {α:Type} {rl us:List α} {u:α} {i:Nat} (hi:i≤us.length) (hl:us.length+1≤rl.length) (ht:rl.take i=us.take i):
 ((((rl.take i++[u]++rl.drop (i+1)).take (i+1)++us.drop i++(rl.take i++[u]++rl.drop (i+1)).drop (i+1+(us.drop i).length))).take (us.length+1))=us.take i++u::us.drop i:=by
 have e1:(rl.take i++[u]++rl.drop (i+1)).take (i+1)=us.take i++[u]:=by
  rw[bY (by simp;omega),eP (by simp;omega),ht]
 rw[e1]
 rw[bY (by simp;omega),eP (by simp;omega)]
 simp
theorem Fq {α:Type} {us rest:List α} {u:α} {i:Nat} (hi:i≤us.length) (hl:1≤rest.length):
 (((((us++rest).take (i+1)++us.drop i++(us++rest).drop (i+1+(us.drop i).length)).take i++[u]++((us++rest).take (i+1)++us.drop i++(us++rest).drop (i+1+(us.drop i).length)).drop (i+[u].length))).take (us.length+1))=us.take i++u::us.drop i:=by
 have e1:((us++rest).take (i+1)++us.drop i++(us++rest).drop (i+1+(us.drop i).length)).take i=us.take i:=by
  rw[cK,bY (by simp;omega),List.take_take,Nat.min_eq_left om,bY hi]
 have e2:((us++rest).take (i+1)++us.drop i++(us++rest).drop (i+1+(us.drop i).length)).drop (i+[u].length)=us.drop i++(us++rest).drop (i+1+(us.drop i).length):=by
  rw[cK,eD (by simp;omega),dN (by simp;omega)]
  simp
 rw[e1,e2]
 rw[←cK,bY (by simp;omega),eP (by simp;omega)]
 simp
theorem ins_room {B:Nat} (g k i:Nat) (us rest:List Value) (u:Value) (vb:Nat) (w:World) (hR:Row1 w g 208 (us++rest)) (hk:(us++rest).length=k) (hm:k≤maxLen) (hBg:B≤g) (hr1:1≤rest.length) (hi:i<us.length) (h1: ∀x∈us,x.oneCell'=true) (hu1:u.oneCell'=true) (hl:us.length≤2000) (hv:Row1 w vb 208 [u]) (hne:vb≠g):
 Calls Tryz.prog 214 #[.slice (some ⟨g,0,none⟩) us.length k,.int .i64 i,.slice (some ⟨vb,0,none⟩) 1 1] w (pJ B (.slice (some ⟨g,0,none⟩) us.length k) us i u w):=by
 obtain⟨n,hn⟩: ∃n,n=us.length:=⟨_,rfl⟩
 have hrk:n+1≤k:=by rw[←hk,hn];simp;omega
 have hdl:(us.drop i).length=n-i:=by rw[cB,hn]
 have LR:=hR.loc
 have hsp: ∀j,j<n+1→(w.cell? ⟨g,j,none⟩).isSome=true:=fun j hj=>by
  obtain⟨x,hx⟩: ∃x,(us++rest)[j]?=some x:=⟨(us++rest)[j]' om,au _⟩
  rw[LR.c j x hx];rfl
 have hfz: ∀j,j<n+1→w.frozen? ⟨g,j,none⟩=false:=fun j hj=>LR.f j om
 have hov: ∀lb cb,(callFunc 253 #[.slice (some ⟨vb,0,none⟩) 1 1,.slice (some ⟨g,i+1,none⟩) lb cb]).run Tryz.prog w= .ok (.value (.bool false)) w:=fun lb cb=>by
  obtain⟨cv,hv1,hv2⟩:=hv
  obtain⟨cg,hg1,hg2⟩:=hR
  have kg:cg.size≠0:=by have:cg.toList.length=k:=by rw[hg2];exact hk
                        simp at this;omega
  rw[run_callFunc_extern Tryz.func253 kR kR kR (e:=Extern.SlicesOverlaps.overlaps #[198,198] #[4]) kR,
   Lib.run_overlaps_apart w 198 4 208 dU 1 (fun _=>kR) ⟨vb,0,none⟩ ⟨g,i+1,none⟩ 1 1 lb cb hne 208 208 cv.size cg.size (by simp only[World.shape?,hv1]) (by simp only[World.shape?,hg1]) kg (by simp only[World.frozen?,hv1];simp) (by simp only[World.frozen?,hv1];simp)]
  rfl
 have hcp1: ∀ty dc sc,(Builtin.copy_ #[198,198] ty #[.slice (some ⟨g,i+1,none⟩) (n-i) dc,.slice (some ⟨g,i,none⟩) (n+1-i) sc]).run Tryz.prog w.drew= .ok (goInt (us.drop i).length) (w.drew.setCells g (i+1) (us.drop i)):=fun ty dc sc=>
  run_copy_cells w.drew _ _ ty 208 g (i+1) (n-i) dc ⟨g,i,none⟩ (n+1-i) sc (us.drop i) dU rA (by rw[hdl];simp only[Nat.min_def];split<;>omega)
   (fun j v hj=>by
     rw[addr_add]
     rw[cu] at hj
     exact LR.c (i+j) v (by rw[bE (aj.1 hj).1];exact hj))
   (fun j hj=>by rw[hdl] at hj;exact hsp _ om) (fun j hj=>by rw[hdl] at hj;exact hfz _ om) (fun v hv=>h1 v (eu hv))
 obtain⟨W1,hW1⟩: ∃W1,W1=w.drew.setCells g (i+1) (us.drop i):=⟨_,rfl⟩
 have R1:=hR.drew.sets (us.drop i) (i+1) (by rw[hdl,hk];omega)
 rw[←hW1] at R1
 have L1:=R1.loc
 have l1:((us++rest).take (i+1)++us.drop i++(us++rest).drop (i+1+(us.drop i).length)).length=k:=by simp only[aU,aQ,cB] at hk ⊢;omega
 have V1:Row1 W1 vb 208 [u]:=by rw[hW1];exact hv.drew.keep (mP (g:=g) (S:=[g]) _ _ (Keep.refl _ _) (.inl sI)) (by simpa using hne)
 have hcp2: ∀ty dc,(Builtin.copy_ #[198,198] ty #[.slice (some ⟨g,i,none⟩) (n+1-i) dc,.slice (some ⟨vb,0,none⟩) 1 1]).run Tryz.prog W1= .ok (goInt [u].length) (W1.setCells g i [u]):=fun ty dc=>
  run_copy_cells W1 _ _ ty 208 g i (n+1-i) dc ⟨vb,0,none⟩ 1 1 [u] dU rA (by simp only[Nat.min_def,fq];split<;>omega)
   (fun j v hj=>by rw[addr_add,bO];exact V1.loc.c j v hj)
   (fun j hj=>by
     simp at hj;subst hj
     obtain⟨x,hx⟩: ∃x,((us++rest).take (i+1)++us.drop i++(us++rest).drop (i+1+(us.drop i).length))[i+0]?=some x:=⟨_,au (by rw[l1];omega)⟩
     rw[L1.c _ x hx];rfl) (fun j hj=>by simp at hj;subst hj;exact L1.f _ (by rw[l1];omega)) (fun v hv=>by simp at hv;subst hv;exact hu1)
 have FIN:Hid (pJ B (.slice (some ⟨g,0,none⟩) n k) us i u w (.returned (.slice (some ⟨g,0,none⟩) (n+1) k)) (W1.setCells g i [u])):=by
  have R2:=R1.sets [u] i (by rw[l1];simp;omega)
  have hlen:(((us++rest).take (i+1)++us.drop i++(us++rest).drop (i+1+(us.drop i).length)).take i++[u]++((us++rest).take (i+1)++us.drop i++(us++rest).drop (i+1+(us.drop i).length)).drop (i+[u].length)).length=k:=by simp only[aU,aQ,cB,fq] at l1 ⊢;omega
  have ow:=R2.own hBg (n:=n+1) (by rw[hlen];omega) (by rw[hlen];exact hm)
  rw[hlen] at ow
  have e2:=Fq (u:=u) (gV hi) hr1
  rw[←hn] at e2
  rw[e2] at ow
  refine⟨some ⟨g,0,none⟩,k,by rw[hn],by rw[←hn];exact ow,?_,fun y hy=>.inl (by simpa[iF,Value.ownBlock] using hy)⟩
  rw[hW1]
  exact mP _ _ (mP _ _ (Keep.refl _ _).drew (.inl (by simp[iF,Value.ownBlock]))) (.inl (by simp[iF,Value.ownBlock]))
 have hin:(i:Int)<(n:Int):=om
 have hi0:(0:Int)≤(i:Int):=om
 have hz2: ¬((i:Int)=(n:Int)):=om
 have hroom: ¬((k:Int)<(n:Int)+1):=om
 have hw1:IntKind.i64.wrap ((i:Int)+1)=(i:Int)+1:=aP _ om
 have htn:((i:Int)+1).toNat=i+1:=om
 have hb1:(0:Int)≤(i:Int)+1:=om
 have hb2: ¬(k=i+1):=om
 have hb3: ¬(k=i):=om
 have hb4:(i:Int)+1≤(n:Int)+1:=om
 have hb5:(i:Int)≤(n:Int)+1:=om
 have hl':n≤2000:=om
 have hi':i≤n:=om
 have HN:=ah hn
 rw[←hn]
 unfold maxLen at hm
 have mixed:Tryz.prog.follows .mixedOrders=true:=kR
 clear hR LR R1 L1 V1 hsp hfz hv hdl l1 hk hn hi hl
 rw[←hW1] at hcp1
 clear hW1
 go_enter Tryz.func214,Tryz.ntmps214
 go_wp2_with (simp only[hov])
 go_region_law (refine step_copy_runI rfl _ _ 198 198 rfl _ _ (by simp[Act.eval,Act.put]) (by simp[Act.eval,Act.put]) (hcp1 _ _ _) ?_)
 go_wp2_with (at_builtin;refine wpList_copy_runI _ rfl _ _ 198 198 rfl _ _ rfl rfl (hcp2 _ _) ?_)
 go_ret
 exact FIN.out
theorem ins_grow {B:Nat} (g i:Nat) (us:List Value) (u:Value) (vb:Nat) (w:World) (hR:Row1 w g 208 us) (hB:B≤w.heap.size) (hi:i<us.length) (h1: ∀x∈us,x.oneCell'=true) (hu1:u.oneCell'=true) (hl:us.length≤2000) (hv:Row1 w vb 208 [u]) (hne:vb≠g):
 Calls Tryz.prog 214 #[.slice (some ⟨g,0,none⟩) us.length us.length,.int .i64 i,.slice (some ⟨vb,0,none⟩) 1 1] w (pJ B (.slice (some ⟨g,0,none⟩) us.length us.length) us i u w):=by
 obtain⟨n,hn⟩: ∃n,n=us.length:=⟨_,rfl⟩
 have hdl:(us.drop i).length=n-i:=by rw[cB,hn]
 have htl:(us.take i).length=i:=by rw[aQ];omega
 have LR:=hR.loc
 have hbw:g<w.heap.size:=hR.lt
 have hvw:vb<w.heap.size:=hv.lt
 obtain⟨i0,hi0,hz0,hzs,hzb⟩:=info_parts (P:=Tryz.prog) (e:=208) (z:=.pointer none) (size:=1) (bytes:=8) kR
 have hkk:(n:Int)+1-(i:Int)=((n+1-i:Nat):Int):=om
 have hik:i+(n+1-i)=n+1:=om
 have hold:(Builtin.firstCells i0.size i (.slice (some ⟨g,0,none⟩) i n)).run Tryz.prog w.drew= .ok (us.take i).toArray w.drew:=by
  rw[hzs]
  exact run_firstCells_some w.drew 1 i ⟨g,0,none⟩ i n (us.take i) (by rw[htl];omega) (fun j v hj=>by
   rw[addr_add,bO]
   rw[eY] at hj
   split at hj
   ·exact LR.c j v hj
   ·cases hj)
 have hrz: ∀ty,(Builtin.append_ #[198,3] ty #[.slice (some ⟨g,0,none⟩) i n,.int .i64 ((n:Int)+1-(i:Int))]).run Tryz.prog w=
  .ok (.slice (some ⟨w.heap.size,0,none⟩) (n+1) (grownCap w (n+1) n 208)) (w.drew.alloc (.cells ((us.take i).toArray++Builtin.zeroCells (Value.pointer none).cells (n+1-i)++Builtin.zeroCells (Value.pointer none).cells (grownCap w (n+1) n 208-(n+1))) 208)):=fun ty=>by
  have h:=Lib.run_append_grow_zeros w 198 3 ty 208 i0 _ .i64 .i64 dU bg hi0 hz0 (some ⟨g,0,none⟩) i n (us.take i) hold (n+1-i) om om om om (by rw[hzb];omega) (by rw[hzb,hik];exact growslice_fits om om)
  rw[hik] at h
  rw[hkk]
  exact h
 obtain⟨G,hG⟩: ∃G,G=grownCap w (n+1) n 208:=⟨_,rfl⟩
 obtain⟨ROW,hROW⟩: ∃ROW:Array Value,ROW=(us.take i).toArray++Builtin.zeroCells (Value.pointer none).cells (n+1-i)++Builtin.zeroCells (Value.pointer none).cells (G-(n+1)):=⟨_,rfl⟩
 rw[←hG] at hrz
 rw[←hROW] at hrz
 have hGn:n+1≤G:=by rw[hG];exact grownCap_ge w _ _ _
 have hGm:G≤maxLen:=by rw[hG];exact grownCap_le_maxLen w (n+1) n 208 (by unfold maxLen;omega)
 have hRl:ROW.toList.length=G:=by
  rw[hROW]
  simp[Builtin.zeroCells,Value.cells]
  omega
 have hRt:ROW.toList.take i=us.take i:=by
  rw[hROW]
  simp only[Array.toList_append,cK]
  rw[bY (by rw[aQ];omega)]
  simp[List.take_take]
 obtain⟨W1,hW1⟩: ∃W1,W1=w.drew.alloc (.cells ROW 208):=⟨_,rfl⟩
 rw[←hW1] at hrz
 have R1:Row1 W1 w.heap.size 208 ROW.toList:=⟨ROW,by rw[hW1];exact gW w.drew _,rfl⟩
 have K1:Keep [] w W1:=by rw[hW1];exact(Keep.refl [] w).drew.alloc _
 have V1:Row1 W1 vb 208 [u]:=hv.keep K1 sI
 have Q1:Row1 W1 g 208 us:=hR.keep K1 sI
 have D1: ∀(W:World) (b:Nat) (cs:List Value),W.heap=W1.heap→Row1 W1 b 208 cs→Row1 W b 208 cs:=fun W b cs e h=>by
  obtain⟨cur,h1,h2⟩:=h
  exact⟨cur,by rw[e];exact h1,h2⟩
 have hcpA: ∀(W:World),W.heap=W1.heap→∀ty dc,(Builtin.copy_ #[198,198] ty #[.slice (some ⟨w.heap.size,i,none⟩) (n+1-i) dc,.slice (some ⟨vb,0,none⟩) 1 1]).run Tryz.prog W= .ok (goInt [u].length) (W.setCells w.heap.size i [u]):=fun W hW ty dc=>
  run_copy_cells W _ _ ty 208 w.heap.size i (n+1-i) dc ⟨vb,0,none⟩ 1 1 [u] dU rA (by simp only[Nat.min_def,fq];split<;>omega)
   (fun j v hj=>by rw[addr_add,bO];exact(D1 W _ _ hW V1).loc.c j v hj)
   (fun j hj=>by
     simp at hj;subst hj
     obtain⟨x,hx⟩: ∃x,ROW.toList[i+0]?=some x:=⟨_,au (by rw[hRl];omega)⟩
     rw[(D1 W _ _ hW R1).loc.c _ x hx];rfl) (fun j hj=>by simp at hj;subst hj;exact(D1 W _ _ hW R1).loc.f _ (by rw[hRl];omega)) (fun v hv=>by simp at hv;subst hv;exact hu1)
 obtain⟨W2,hW2⟩: ∃W2,W2=W1.drew.setCells w.heap.size i [u]:=⟨_,rfl⟩
 have R2:=R1.drew.sets [u] i (by rw[hRl];simp;omega)
 rw[←hW2] at R2
 have l2:(ROW.toList.take i++[u]++ROW.toList.drop (i+[u].length)).length=G:=by simp only[aU,aQ,cB,fq];omega
 have Q2:Row1 W2 g 208 us:=by rw[hW2];exact Q1.drew.keep (mP (g:=w.heap.size) (S:=[w.heap.size]) _ _ (Keep.refl _ _) (.inl sI)) (by simp;omega)
 have D2: ∀(W:World) (b:Nat) (cs:List Value),W.heap=W2.heap→Row1 W2 b 208 cs→Row1 W b 208 cs:=fun W b cs e h=>by
  obtain⟨cur,h1,h2⟩:=h
  exact⟨cur,by rw[e];exact h1,h2⟩
 have hcpB: ∀(W:World),W.heap=W2.heap→∀ty dc sc,(Builtin.copy_ #[198,198] ty #[.slice (some ⟨w.heap.size,i+1,none⟩) (n-i) dc,.slice (some ⟨g,i,none⟩) (n-i) sc]).run Tryz.prog W= .ok (goInt (us.drop i).length) (W.setCells w.heap.size (i+1) (us.drop i)):=fun W hW ty dc sc=>
  run_copy_cells W _ _ ty 208 w.heap.size (i+1) (n-i) dc ⟨g,i,none⟩ (n-i) sc (us.drop i) dU rA (by rw[hdl];simp only[Nat.min_def];split<;>omega)
   (fun j v hj=>by
     rw[addr_add]
     exact(D2 W _ _ hW Q2).loc.c (i+j) v (by rwa [cu] at hj))
   (fun j hj=>by
     rw[hdl] at hj
     obtain⟨x,hx⟩: ∃x,(ROW.toList.take i++[u]++ROW.toList.drop (i+[u].length))[i+1+j]?=some x:=⟨_,au (by rw[l2];omega)⟩
     rw[(D2 W _ _ hW R2).loc.c _ x hx];rfl)
   (fun j hj=>(D2 W _ _ hW R2).loc.f _ (by rw[hdl] at hj;rw[l2];omega)) (fun v hv=>h1 v (eu hv))
 have K2:Keep [] w W2:=by rw[hW2];exact mP _ _ K1.drew (.inr (aI _))
 have FIN:Hid (∀W:World,W.heap=W2.heap→Keep [] w W→pJ B (.slice (some ⟨g,0,none⟩) n n) us i u w (.returned (.slice (some ⟨w.heap.size,0,none⟩) (n+1) G)) (W.setCells w.heap.size (i+1) (us.drop i))):=fun W hW hWK=>by
  have R3:=(D2 W _ _ hW R2).sets (us.drop i) (i+1) (by rw[hdl,l2];omega)
  have hlen:((ROW.toList.take i++[u]++ROW.toList.drop (i+[u].length)).take (i+1)++us.drop i++(ROW.toList.take i++[u]++ROW.toList.drop (i+[u].length)).drop (i+1+(us.drop i).length)).length=G:=by simp only[aU,aQ,cB,fq] at l2 hdl ⊢;omega
  have ow:=R3.own hB (n:=n+1) (by rw[hlen];exact hGn) (by rw[hlen];exact hGm)
  rw[hlen] at ow
  have e2:=Fp (u:=u) (rl:=ROW.toList) (gV hi) (by rw[hRl,←hn];exact hGn) hRt
  rw[←hn] at e2
  rw[show(ROW.toList.take i++[u]++ROW.toList.drop (i+[u].length))=(ROW.toList.take i++[u]++ROW.toList.drop (i+1)) from rfl] at ow
  rw[e2] at ow
  have K3:Keep [] w (W.setCells w.heap.size (i+1) (us.drop i)):=mP _ _ hWK (.inr (aI _))
  refine⟨some ⟨w.heap.size,0,none⟩,G,by rw[←hn],by rw[←hn];exact ow,K3.wide,fun y hy=>.inr (by simp[iF,Value.ownBlock] at hy;omega)⟩
 have HW2:=ah hW2;have HK2:=ah K2
 have mixed:Tryz.prog.follows .mixedOrders=true:=kR
 have hin:(i:Int)<(n:Int):=om
 have hi0:(0:Int)≤(i:Int):=om
 have hz2: ¬((i:Int)=(n:Int)):=om
 have hroom:(n:Int)<(n:Int)+1:=om
 have hw1:IntKind.i64.wrap ((i:Int)+1)=(i:Int)+1:=aP _ om
 have htn:((i:Int)+1).toNat=i+1:=om
 have hb1:(0:Int)≤(i:Int)+1:=om
 have hGi: ¬(G=i):=om
 have hGim: ¬(G=i+1):=om
 have hci: ¬(n=i):=om
 have hb3:(i:Int)≤(n:Int):=om
 have hG63:G≤9223372036854775807:=by unfold maxLen at hGm;omega
 have hl':n≤2000:=om
 have hi':i≤n:=om
 rw[←hn]
 clear hR hkk hik hold hROW hG hRl hRt R1 K1 V1 Q1 D1 R2 l2 Q2 D2 K2 hW2 hW1 hGm hdl htl LR hv hn hi hl
 go_enter Tryz.func214,Tryz.ntmps214
 go_wp2_with (first
  |(at_builtin;refine Lib.wpList_append_run _ rfl _ _ _ _ rfl _ _ rfl rfl _ _ (hrz _) ?_)
  |(at_builtin;refine wpList_copy_runI _ rfl _ _ 198 198 rfl _ _ rfl rfl (hcpA _ rfl _ _) ?_)
  |(at_builtin;refine wpList_copy_runI _ rfl _ _ 198 198 rfl _ _ rfl rfl (hcpB _ (by rw[HW2.out];rfl) _ _ _) ?_))
 go_region_law (refine step_copy_runI rfl _ _ 198 198 rfl (.slice (some ⟨w.heap.size,i+1,none⟩) (n-i) (G-(i+1))) (.slice (some ⟨g,i,none⟩) (n-i) (n-i)) (by simp[Act.eval,Act.put]) (by simp[Act.eval,Act.put]) (hcpB _ (by rw[HW2.out];rfl) 3 (G-(i+1)) (n-i)) ?_)
 go_wp2
 go_ret
 exact FIN.out _ (by rw[HW2.out];rfl) (by have q:=HK2.out;rw[HW2.out] at q;first|exact q|exact q.drew)
theorem sins_ok {B:Nat} (v:Value) (i:Nat) (us:List Value) (u:Value) (vb:Nat) (w:World) (hown:w.ownsRow B 208 1 v us.length us) (hi:i≤us.length) (h1: ∀x∈us,x.oneCell'=true) (hu1:u.oneCell'=true) (hl:us.length≤2000) (hv:Row1 w vb 208 [u]) (hne:vb∉iF v) (hB:B≤w.heap.size):
 Calls Tryz.prog 214 #[v,.int .i64 i,.slice (some ⟨vb,0,none⟩) 1 1] w (pJ B v us i u w):=by
 by_cases e:i=us.length
 ·subst e
  exact ins_end v us u vb w hown hu1 hl hv.loc hB
 ·have ho:=hown
  rcases hown.2 with⟨rfl,h3⟩|⟨g,cap,cur,rfl,hg,hh,hcap,hmax,_⟩
  ·omega
  ·obtain⟨rest,R,r1,r2,r3,r4,r5⟩:=BQ ho
   have hne':vb≠g:=fun q=>hne (by rw[kI,q];rfl)
   cases rest with
   |nil=>
    rw[dF] at R r1
    obtain rfl:cap=us.length:=r1.symm
    exact ins_grow g i us u vb w R hB om h1 hu1 hl hv hne'
   |cons r rs=>exact ins_room g cap i us (r::rs) u vb w R r1 r4 r5 sI om h1 hu1 hl hv hne'
end
section
open Go
section
variable {P:Program} {md:Region.Mode} {l:List Oper} {n:Nat}
def DY (md:Region.Mode) (l:List Oper) (n:Nat):Bool:=
 decide (n<l.length)&&Region.sinkB md l.toArray n&&Region.chainB md l.toArray n&&
 ((List.range n).all fun j=>match l[j]? with
   |some o=>(o.after.all fun e=>decide (e.on<j))&&(match o.guard with|some (g,_)=>decide (g<n)|none=>true)
   |none=>false)&&
 Region.seqB md l.toArray (l.length-n) n (List.replicate n true++List.replicate (l.length-n) false).toArray
def nR (P:Program) (l:List Oper) (n:Nat) (Q:Exit→Act→World→Prop):Exit→Act→World→Prop
 | .normal,a,w=>wpList P l.toArray Q (l.drop n) a w
 |e,a,w=>Q e a w
structure pK (l:List Oper) (n:Nat) (listed L:Array Bool):Prop where
 s1:listed.size=n
 s2:L.size=l.length
 eq: ∀i,i<n→L[i]?=listed[i]?
 tl: ∀t,n≤t→t<l.length→L.getD t true=false
theorem wV {ops:Array Oper} {Q:Exit→Act→World→Prop}: ∀(f:Nat) (listed:Array Bool) (a:Act) (w:World),wpAny P md ops Q f listed a w→wpAny P md ops Q (f+1) listed a w
 |0,_,_,_,h=>⟨fun _=>h.2,fun i hi=>by rw[h.1] at hi;cases hi⟩
 |f+1,_,_,_,h=>⟨h.1,fun i hi=>wpOp_mono (fun a' w' h'=>wV f _ a' w' h') (h.2 i hi)⟩
theorem wm {ops:Array Oper} {Q:Exit→Act→World→Prop} (f k:Nat) (listed:Array Bool) (a:Act) (w:World) (h:wpAny P md ops Q f listed a w):wpAny P md ops Q (f+k) listed a w:=by
 induction k with
 |zero=>exact h
 |succ k ih=>exact wV _ _ _ _ ih
theorem yY {Q:Exit→Act→World→Prop} (h:LetsOut (nR P l n Q)):LetsOut Q:=h
theorem wp_head {o:Oper} {a:Act} {w:World} {K:Act→World→Prop} {Q:Exit→Act→World→Prop} (h:o.wp P a w K (nR P l n Q)):o.wp P a w K Q:=by
 unfold Oper.wp at*
 generalize(execOp a.eval o).run P w=r at*
 cases r with
 |ok m w'=>
  cases m<;>simp only[Oper.upon] at h ⊢ <;>first|exact h|exact Calls.mono h (fun e w'' he=>by cases e<;>exact he)
 |halt x w'=>cases x<;>simp only[Oper.upon] at h ⊢ <;>exact h
theorem pK.set {listed L:Array Bool} {i:Nat} (h:pK l n listed L) (hi:i<n):pK l n (listed.setIfInBounds i true) (L.setIfInBounds i true):=
 ⟨by simp[h.s1],by simp[h.s2],fun j hj=>by
   by_cases hij:i=j
   ·subst hij
    have h1:=h.s1
    have h2:=h.s2
    have h3:=h.eq i hi
    by_cases hl:i<l.length
    ·simp[h1,h2,hi,hl]
    ·rw[dO om] at h3
     rw[fZ om] at h3
     cases h3
   ·simp[Array.getElem?_setIfInBounds_ne hij,h.eq j hj],fun t ht ht'=>by
   rw[getD_set_ne true om];exact h.tl t ht ht'⟩
theorem pK.getD {listed L:Array Bool} {i:Nat} (h:pK l n listed L) (hi:i<n) (d:Bool):L.getD i d=listed.getD i d:=by
 have:=h.eq i hi
 simp[this]
theorem yZ {listed L:Array Bool} (hB:DY md l n=true) (h:pK l n listed L) {i:Nat} (hi:i<n):
 i∈Region.ready md l.toArray L↔i∈Region.ready md (l.take n).toArray listed:=by
 simp only[DY,bV,decide_eq_true_eq] at hB
 obtain⟨⟨⟨⟨hn,_⟩,_⟩,hA⟩,_⟩:=hB
 have hAi:=fQ.1 hA i (fI.2 hi)
 rw[mem_ready,mem_ready,h.getD hi true]
 have e1:(l.take n).toArray[i]?=l.toArray[i]?:=by simp[hi]
 rw[e1]
 refine and_congr_right fun _=>exists_congr fun o=>and_congr_right fun ho=> ?_
 have ho':l[i]?=some o:=by simpa using ho
 rw[ho'] at hAi
 simp only[bV] at hAi
 have hE:=Array.all_eq_true_iff_forall_mem.1 hAi.1
 exact forall_congr' fun e=>forall_congr' fun he=>forall_congr' fun _=>by
  rw[h.getD (by have:=of_decide_eq_true (hE e he);omega)]
theorem D8 {o:Oper} {tmps:Array Value} (hB:DY md l n=true) {i:Nat} (hi:i<n) (ho:l[i]?=some o):
 Region.wanted o (yielded (l.take n).toArray tmps)=Region.wanted o (yielded l.toArray tmps):=by
 simp only[DY,bV,decide_eq_true_eq] at hB
 obtain⟨⟨⟨⟨hn,_⟩,_⟩,hA⟩,_⟩:=hB
 have hAi:=fQ.1 hA i (fI.2 hi)
 rw[ho] at hAi
 simp only[bV] at hAi
 unfold Region.wanted
 cases hg:o.guard with
 |none=>rfl
 |some p=>
  obtain⟨g,b⟩:=p
  have hgn:g<n:=by
   have:=hAi.2
   rw[hg] at this
   simpa using this
  have e1:yielded (l.take n).toArray tmps g=yielded l.toArray tmps g:=by unfold yielded;simp[hgn]
  simp only[e1]
theorem cut_full {listed L:Array Bool} (h:pK l n listed L) (hn:n<l.length) (ha: ∀i,i<n→listed.getD i false=true):L=(List.replicate n true++List.replicate (l.length-n) false).toArray:=by
 apply Array.ext
 ·simp[h.s2];omega
 ·intro i h1 h2
  have hl:i<l.length:=by have:=h.s2;omega
  by_cases hi:i<n
  ·have e1:=h.eq i hi
   have e2:=ha i hi
   have hs:i<listed.size:=by rw[h.s1];exact hi
   rw[fZ h1,fZ hs] at e1
   have e3:listed[i]=true:=by simpa[hs] using e2
   have e4:=aH e1
   rw[e4,e3]
   simp[List.getElem_append,hi]
  ·have e1:=h.tl i om hl
   have e3:L[i]=false:=by simpa[h1] using e1
   rw[e3]
   simp[List.getElem_append,hi]
theorem cut_all {listed L:Array Bool} (hB:DY md l n=true) (h:pK l n listed L) (he:Region.ready md (l.take n).toArray listed=[]): ∀i,i<n→listed.getD i false=true:=by
 simp only[DY,bV,decide_eq_true_eq] at hB
 obtain⟨⟨⟨⟨hn,_⟩,_⟩,hA⟩,_⟩:=hB
 intro i
 induction i using Nat.strongRecOn with
 |_ i ih=>
  intro hi
  cases hl:listed.getD i false with
  |true=>rfl
  |false=>
   have hAi:=fQ.1 hA i (fI.2 hi)
   have hil:i<l.length:=om
   rw[au hil] at hAi
   simp only[bV] at hAi
   have hE:=Array.all_eq_true_iff_forall_mem.1 hAi.1
   have:i∈Region.ready md (l.take n).toArray listed:=mem_ready.2 ⟨getD_in (by rw[h.s1];exact hi) hl,l[i],by simp[hi,hil],fun e he _=>by
    have:=of_decide_eq_true (hE e he)
    exact ih e.on this om⟩
   rw[he] at this
   cases this
theorem cut_go {Q:Exit→Act→World→Prop} {listed L:Array Bool} {a:Act} {w:World} (hB:DY md l n=true) (h:pK l n listed L) (he:Region.ready md (l.take n).toArray listed=[])
 (hQ:wpList P l.toArray Q (l.drop n) a w):wpAny P md l.toArray Q (l.drop n).length L a w:=by
 have ha:=cut_all hB h he
 simp only[DY,bV,decide_eq_true_eq] at hB
 obtain⟨⟨⟨⟨hn,_⟩,_⟩,_⟩,hseq⟩:=hB
 have e:=cut_full h hn ha
 subst e
 exact wpAny_of_seq (l.drop n) n _ a w (fun j=>by simp[cu]) (by simpa using hseq) hQ
theorem cut_any {Q:Exit→Act→World→Prop} (hB:DY md l n=true):
 ∀(f:Nat) (listed L:Array Bool) (a:Act) (w:World),pK l n listed L→HeadInv md l.toArray n L→
  wpAny P md (l.take n).toArray (nR P l n Q) f listed a w→wpAny P md l.toArray Q ((l.drop n).length+f) L a w:=by
 have hB':=hB
 simp only[DY,bV,decide_eq_true_eq] at hB'
 obtain⟨⟨⟨⟨hn,hs⟩,hc⟩,hA⟩,_⟩:=hB'
 intro f
 induction f with
 |zero=>
  intro listed L a w hr inv h
  exact cut_go hB hr h.1 h.2
 |succ f ih=>
  intro listed L a w hr inv h
  by_cases he:Region.ready md (l.take n).toArray listed=[]
  ·exact wm _ (f+1) _ _ _ (cut_go hB hr he (h.1 he))
  ·obtain⟨i0,hi0⟩:=List.exists_mem_of_ne_nil _ he
   have hi0n:i0<n:=by
    obtain⟨_,o,ho,_⟩:=mem_ready.1 hi0
    have:=(Array.getElem?_eq_some_iff.1 ho).1
    simp at this;omega
   have hun:L.getD i0 true=false:=by rw[hr.getD hi0n];exact(mem_ready.1 hi0).1
   have hin: ∀i∈Region.ready md l.toArray L,i<n:=fun i hi=>by
    rcases dH i n with q|q
    ·exact q
    ·exact absurd hi (tail_waits hs hc (by simpa using hn) inv _ i0 rfl hi0n hun i q)
   refine⟨fun h0=> ?_,fun i hi=> ?_⟩
   ·have:=(yZ hB hr hi0n).2 hi0
    rw[h0] at this;cases this
   ·have hin':=hin i hi
    have h1:=h.2 i ((yZ hB hr hin').1 hi)
    have hil:i<l.length:=om
    have e1:(l.take n).toArray[i]?=some l[i]:=by simp[hin',hil]
    have e2:l.toArray[i]?=some l[i]:=by simp[hil]
    have hst: ∀a' w',wpAny P md (l.take n).toArray (nR P l n Q) f (listed.setIfInBounds i true) a' w'→wpAny P md l.toArray Q ((l.drop n).length+f) (L.setIfInBounds i true) a' w':=
     fun a' w' h'=>ih _ _ a' w' (hr.set hin') (inv.set hi hin') h'
    unfold wpOp at h1 ⊢
    simp only[e1] at h1
    simp only[e2]
    rw[D8 hB hin' (au hil)] at h1
    split
    ·rename_i hw
     simp only[hw,if_true] at h1
     rcases h1 with h1|h1
     ·exact .inl (Oper.wp_mono hst (wp_head h1))
     ·exact .inr ⟨h1.1,yY h1.2⟩
    ·rename_i hw
     simp only[hw] at h1
     exact hst _ _ h1
theorem iP {S:World→Prop} {id:Nat} {Q:Exit→Act→World→Prop} {a:Act} {w:World} (n:Nat) (L:Array Bool) (hL:L=(List.replicate n false).toArray) (hm:P.follows .mixedOrders=true) (hB:DY .any l n=true) (hS:S w.drew)
 (h:S w.drew→wpAnyH P .any (l.take n).toArray (nR P l n Q) S n L a w.drew):(Code.region id l.toArray true).wp P Q a w:=by
 have hB':=hB
 simp only[DY,bV,decide_eq_true_eq] at hB'
 obtain⟨⟨⟨⟨hn,hs⟩,hc⟩,hA⟩,_⟩:=hB'
 refine wp_region_any hm ?_
 have hsz:(l.take n).toArray.size=n:=by simp;omega
 have h0:=h hS
 rw[hL] at h0
 have h1:=wpAny_of_held _ _ _ _ h0
 have inv0:HeadInv .any l.toArray n (Array.replicate l.toArray.size false):=
  ⟨sI,fun j oj _ hl=>(by rw[getD_replicate_false] at hl;cases hl),fun t _ ht=>getD_in (by simpa using ht) (getD_replicate_false _ _)⟩
 have rel0:pK l n (List.replicate n false).toArray (Array.replicate l.toArray.size false):=
  ⟨sI,sI,fun i hi=>by
    have h1:i<l.length:=om
    simp[h1,hi,Array.getElem?_replicate],fun t _ ht=>getD_in (by simpa using ht) (getD_replicate_false _ _)⟩
 have h2:=cut_any (Q:=Q) hB _ _ _ a w.drew rel0 inv0 h1
 have e:(l.drop n).length+n=l.toArray.size:=by simp;omega
 rw[e] at h2
 exact h2
theorem cut_take {S:World→Prop} {Q:Exit→Act→World→Prop} {i:Nat} {oi:Oper} {v:Value} {fuel:Nat} {listed:Array Bool} {a:Act} {w:World} (hi:l[i]?=some oi)
 (hs:Region.noSelect l.toArray=true) (hf:Region.free md l.toArray listed i=true) (hr:(Region.ready md l.toArray listed).contains i=true)
 (hQ: ∀c a w,Q (.panic c) (a.put oi.dst v) w→Q (.panic c) a w) (hy:YieldsIf P l.toArray S oi v a) (hS:S w)
 (h:wpAnyH P md l.toArray Q S fuel (listed.setIfInBounds i true) (a.put oi.dst v) w):wpAnyH P md l.toArray Q S (fuel+1) listed a w:=
 wpAnyH_take (by simpa using hi) hs hf hr hQ hy hS h
theorem ctk {S:World→Prop} {Q:Exit→Act→World→Prop} {i:Nat} {oi:Oper} {v:Value} {fuel:Nat} {listed:Array Bool} {a:Act} {w:World} (hi:l[i]?=some oi)
 (hQ: ∀c a w,Q (.panic c) (a.put oi.dst v) w→Q (.panic c) a w) (hy:YieldsIf P l.toArray S oi v a)
 (h:wpAnyH P md l.toArray Q S fuel (listed.setIfInBounds i true) (a.put oi.dst v) w) (hs:Region.noSelect l.toArray=true:=by kernel_rfl) (hf:Region.free md l.toArray listed i=true:=by kernel_rfl) (hr:(Region.ready md l.toArray listed).contains i=true:=by kernel_rfl) (hS:S w:=by assumption):wpAnyH P md l.toArray Q S (fuel+1) listed a w:=
 cut_take hi hs hf hr hQ hy hS h
theorem pA {α:Type} (l:List α) (i:Nat) (x:α):l.toArray.setIfInBounds i x=(l.set i x).toArray:=List.setIfInBounds_toArray ..
theorem pZ {α:Type} (a:α) (l:List α) (x:α):(a::l).set 0 x=x::l:=List.set_cons_zero ..
theorem pS {α:Type} (a:α) (l:List α) (i:Nat) (x:α):(a::l).set (i+1) x=a::l.set i x:=gF ..
theorem iH {l:List Oper} {i:Nat} {o:Oper} (ho:l[i]?=some o):l.toArray[i]?=some o:=by simpa using ho
end
end
end Go.Proofs.YtdcbhlcbiokbeaaGreatDoor
