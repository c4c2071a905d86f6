/- Lemmas and contracts for the claim's last text: SOps, SIns, SFind. -/
import Derived.Test.YtdcbhlcbiokbeaaGreatDoorPf01
import Derived.Test.YtdcbhlcbiokbeaaGreatDoorPf08
set_option linter.unusedSimpArgs false
set_option linter.unusedVariables false
set_option maxHeartbeats 16000000
set_option maxRecDepth 100000
namespace Go.Proofs.YtdcbhlcbiokbeaaGreatDoor
section
open Go.RowKit
attribute [local go_sem ↓] aO aP
def Cv (n a m b:Int):Int:=if rM n m=0 then rM a b else rM n m
theorem Cw (a b:Int):(rM a b<0↔a<b)∧(rM a b=0↔a=b):=by
 unfold rM
 split
 ·omega
 ·split<;>omega
theorem ordP_lt (s:Sl) (j a:Int):decide (Cv s.nd s.pg j a<0)=decide (ltP s j a):=by
 obtain⟨p1,p2⟩:=Cw s.nd j
 obtain⟨q1,q2⟩:=Cw s.pg a
 rw[Bool.eq_iff_iff]
 simp only[decide_eq_true_eq]
 unfold Cv ltP
 split
 ·rename_i h
  rw[p2] at h;rw[q1]
  constructor
  ·intro q;exact .inr ⟨h,q⟩
  ·rintro(q|⟨_,q⟩)
   ·omega
   ·exact q
 ·rename_i h
  rw[p2] at h;rw[p1]
  constructor
  ·intro q;exact .inl q
  ·rintro(q|⟨q,_⟩)
   ·exact q
   ·exact absurd q h
theorem or_two (g:Nat) (x y:Int) (w:World) (h0:w.cell? ⟨g,0,none⟩=some (.int .i64 x)) (h1:w.cell? ⟨g,1,none⟩=some (.int .i64 y)) (hl:g<w.heap.size):
 Calls Tryz.prog 252 #[.slice (some ⟨g,0,none⟩) 2 2] w fun e w'=>e= .returned (.int .i64 (if x=0 then y else x))∧w=w':=by
 by_cases hx:x=0
 ·have d0:(x !=0)=false:=by simp[hx]
  rw[if_pos hx]
  by_cases hy:y=0
  ·have d1:(y !=0)=false:=by simp[hy]
   rw[hy]
   subst hx hy
   go_enter Tryz.func252,Tryz.ntmps252
   go_wp2
   go_loop [5,8] (fun _ iv=>∃i:Nat,i≤2∧iv= .int .i64 i) (fun _ iv=>2-(intOf iv).toNat)
   case atStart=>exact⟨0,om,by go_num⟩
   case round=>
    obtain⟨i,hi,rfl⟩:=hrel
    rcases(show i=0∨i=1∨i=2 by omega) with rfl|rfl|rfl
    ·go_wp2
     go_round
     case rel=>exact⟨1,om,by go_num⟩
     case measure=>simp[intOf]
    ·go_wp2
     go_round
     case rel=>exact⟨2,om,by go_num⟩
     case measure=>simp[intOf]
    ·go_wp2
     go_ret
     exact⟨rfl,rfl⟩
  ·have d1:(y !=0)=true:=by simp[hy]
   subst hx
   go_enter Tryz.func252,Tryz.ntmps252
   go_wp2
   go_loop [5,8] (fun _ iv=>∃i:Nat,i≤1∧iv= .int .i64 i) (fun _ iv=>2-(intOf iv).toNat)
   case atStart=>exact⟨0,om,by go_num⟩
   case round=>
    obtain⟨i,hi,rfl⟩:=hrel
    rcases(show i=0∨i=1 by omega) with rfl|rfl
    ·go_wp2
     go_round
     case rel=>exact⟨1,om,by go_num⟩
     case measure=>simp[intOf]
    ·go_wp2
     go_ret
     exact⟨rfl,rfl⟩
 ·have d0:(x !=0)=true:=by simp[hx]
  rw[if_neg hx]
  clear hx
  go_enter Tryz.func252,Tryz.ntmps252
  go_wp2
  go_loop [5,8] (fun _ iv=>iv= .int .i64 0) (fun _ _=>0)
  case atStart=>rfl
  case round=>
   subst hrel
   go_wp2
   go_ret
   exact⟨rfl,rfl⟩
theorem y8 (n a k m b l:Int) (w:World):
 Calls Tryz.prog 213 #[.agg #[.int .i64 n,.int .i64 a,.int .i64 k],.agg #[.int .i64 m,.int .i64 b,.int .i64 l]] w fun e w'=>e= .returned (.int .i64 (Cv n a m b))∧Below w.heap.size w w':=by
 have CC:Hid (∀(x y:Int) (W:World),Calls Tryz.prog 208 #[.int .i64 x,.int .i64 y] W fun e w'=>e= .returned (.int .i64 (rM x y))∧w'=W):=fun x y W=>(oh x y W).mono fun e w' ⟨h1,h2⟩=>⟨h1,h2.symm⟩
 obtain⟨c1,hc1⟩: ∃c1,c1=rM n m:=⟨_,rfl⟩
 obtain⟨c2,hc2⟩: ∃c2,c2=rM a b:=⟨_,rfl⟩
 have CA:Hid (∀W,Calls Tryz.prog 208 #[.int .i64 n,.int .i64 m] W fun e w'=>e= .returned (.int .i64 c1)∧w'=W):=fun W=>by rw[hc1];exact CC.out n m W
 have CB:Hid (∀W,Calls Tryz.prog 208 #[.int .i64 a,.int .i64 b] W fun e w'=>e= .returned (.int .i64 c2)∧w'=W):=fun W=>by rw[hc2];exact CC.out a b W
 have hp:Cv n a m b=if c1=0 then c2 else c1:=by unfold Cv;rw[hc1,hc2]
 rw[hp]
 clear hc1 hc2 hp CC
 go_enter Tryz.func213,Tryz.ntmps213
 go_wp2_with fail
 refine jd 12 kR kR ?_
 simp only[aT,bq,aL,aW]
 iterate 4 still_step
 still_call (CA.out _)
 iterate 6 still_step
 still_call (CB.out _)
 refine wpStill_nil ?_
 go_wp2_with fail
 refine(or_two (w.heap.size+1+1) c1 c2 _ (by rw[dR,aJ _ _ _ _ sI];rfl) (by rw[dR,aJ _ _ _ _ sI];rfl) sI).mono ?_
 rintro e w1 ⟨rfl,rfl⟩
 go_wp2
 all_goals
  go_ret
  exact⟨rfl,iq⟩
theorem uh {X:List Nat} (T:List Bool) (g k:Nat) (w:World) (h:gX w g (bools T)) (hf:iL T=k) (hm:jG T<T.length) (hl:T.length≤64):
 Calls Tryz.prog 117 #[.slice (some ⟨g,0,none⟩) T.length T.length,.bool false] w fun e w'=>e= .returned (.int .i64 k)∧w=w':=by
 obtain⟨s1,s2,s3⟩:=jk hm
 rw[hf] at s1 s2 s3
 have ck:=h.c k _ (ni s2)
 have CB:Hid (∀j,j<k→w.cell? ⟨g,j,none⟩=some (.bool true)):=fun j hj=>h.c j _ (ni (s3 j hj))
 have lt:=h.lt
 obtain⟨n,hn⟩: ∃n,n=T.length:=⟨_,rfl⟩
 rw[←hn] at s1 hl ⊢
 clear h hf hm s2 s3 hn
 go_enter Tryz.func117,Tryz.ntmps117
 go_wp2
 go_loop [5,8] (fun _ iv=>∃j:Nat,j≤k∧iv= .int .i64 j) (fun _ iv=>n-(intOf iv).toNat)
 case atStart=>exact⟨0,om,by go_num⟩
 case round=>
  obtain⟨j,hj,rfl⟩:=hrel
  have j0:(0:Int)≤(j:Int):=om
  have j1:(j:Int)<(n:Int):=om
  by_cases hjk:j<k
  ·have cj:=CB.out j hjk
   go_wp2
   go_round
   case rel=>exact⟨j+1,om,by go_num⟩
   case measure=>simp[intOf];omega
  ·obtain rfl:j=k:=by omega
   go_wp2
   go_ret
   exact⟨rfl,rfl⟩
theorem lK.cells {w:World} {p:Nat×Nat} {s:Sl} (h:lK w p s):w.cell? ⟨p.1,0,none⟩=some (.int .i64 s.nd)∧w.cell? ⟨p.1,1,none⟩=some (.int .i64 s.pg)∧w.cell? ⟨p.1,2,none⟩=some (.int .i64 0)∧w.cell? ⟨p.1,3,none⟩=some (.slice (some ⟨p.2,0,none⟩) s.T.length s.T.length)∧w.cell? ⟨p.1,4,none⟩=some (.int .i64 (iC s))∧p.1<w.heap.size∧p.2<w.heap.size:=
 ⟨h.1.c 0 _ rfl,h.1.c 1 _ rfl,h.1.c 2 _ rfl,h.1.c 3 _ rfl,h.1.c 4 _ rfl,h.1.lt,h.2.lt⟩
def growF:Value:=.func (.func 212) #[] #[]
theorem wu (p:Nat×Nat) (s:Sl) (j a:Int) (w:World) (h:lK w p s):
 Calls Tryz.prog 212 #[.pointer (some ⟨p.1,0,none⟩),.agg #[.int .i64 j,.int .i64 a,.int .i64 0]] w fun e w'=>e= .returned (.int .i64 (Cv s.nd s.pg j a))∧Below w.heap.size w w':=by
 have b0:Below w.heap.size w (w.alloc (.cells #[.int .i64 j,.int .i64 a,.int .i64 0] 61)):=iq
 have HB0:=ah b0
 obtain⟨c0,c1,c2,_,_,l1,_⟩:=lK.cells h
 have l2:p.1≠w.heap.size:=om
 have l3:p.1<w.heap.size+1:=om
 have LP:gX (w.alloc (.cells #[.int .i64 j,.int .i64 a,.int .i64 0] 61)) w.heap.size [.int .i64 j,.int .i64 a,.int .i64 0]:=gX.mk_ w [.int .i64 j,.int .i64 a,.int .i64 0] 61 rfl
 have p0:=LP.c 0 _ rfl;have p1:=LP.c 1 _ rfl;have p2:=LP.c 2 _ rfl;have pl:=LP.lt
 have OR:=ah (fun W=>y8 s.nd s.pg 0 j a 0 W)
 obtain⟨x,hx⟩: ∃x,x=Cv s.nd s.pg j a:=⟨_,rfl⟩
 rw[←hx] at OR ⊢
 clear h b0 LP hx
 go_enter Tryz.func212,Tryz.ntmps212
 go_wp2_with fail
 refine iw kR kR ?_
 repeat(go_big_quiet_step (((go_at_call 213;exact Calls.behind (OR.out _)))))
 refine wpQuiet_nil ?_
 intro w1 hw'
 have hb1:=iR hw'
 clear hw'
 obtain⟨c1,f1⟩:=rG hb1;have z1:=hb1.size;try simp at z1 c1 f1
 go_wp2
 go_ret
 exact⟨rfl,HB0.out.trans (hb1.mono sI)⟩
def hitS (j a:Int) (C:List Sl):Bool:=match C[mF j a C]? with
 |some s=>Cv s.nd s.pg j a==0
 |none=>false
theorem Av {X:List Nat} {B:Nat} {pc pz e:Nat} {v:Value} {A:SA} {C:List Sl} (j a:Int) (w:World) (h:sF X B w pc pz e v A C) (hp:C.Pairwise ltS) (hn:C.length≤1024):
 Calls Tryz.prog 211 #[v,.agg #[.int .i64 j,.int .i64 a,.int .i64 0],growF] w fun r w'=>r= .returned (.tuple #[.int .i64 (mF j a C),.bool (hitS j a C)])∧Below w.heap.size w w':=by
 obtain⟨q,k,rfl,hk1,hk2,hrow⟩:=h.form
 have HC:=ah h;have HROW:=ah hrow
 have hle:=sj j a C
 have PL:Hid (∀(i:Nat) (s:Sl),i<mF j a C→C[i]?=some s→ltP s j a):=fun i s hi hs=>Cc hi hs
 have PG:Hid (∀(i:Nat) (s:Sl),mF j a C≤i→C[i]?=some s→¬ltP s j a):=fun i s hi hs=>Cg hp hi hs
 obtain⟨n,hnn⟩: ∃n,n=C.length:=⟨_,rfl⟩
 have EN:=ah hnn
 obtain⟨m,hm⟩: ∃m,m=mF j a C:=⟨_,rfl⟩
 rw[←hnn] at hn hk1 hle ⊢
 have HT1:Hid (∀s,C[mF j a C]?=some s→hitS j a C=(Cv s.nd s.pg j a==0)):=fun s hs=>by unfold hitS;rw[hs]
 have HT2:Hid (C.length≤mF j a C→hitS j a C=false):=fun hl=>by unfold hitS;rw[List.getElem?_eq_none hl]
 obtain⟨bb,hbb⟩: ∃bb,bb=hitS j a C:=⟨_,rfl⟩
 rw[←hbb] at HT1 HT2 ⊢
 rw[←hm] at PL PG HT1 HT2 hle ⊢
 clear hbb
 have LP:=ah (show gX (w.alloc (.cells #[.int .i64 j,.int .i64 a,.int .i64 0] 61)) w.heap.size [.int .i64 j,.int .i64 a,.int .i64 0] from gX.mk_ w [.int .i64 j,.int .i64 a,.int .i64 0] 61 rfl)
 have HB0:=ah (show Below w.heap.size w (w.alloc (.cells #[.int .i64 j,.int .i64 a,.int .i64 0] 61)) from iq)
 unfold maxLen at hk2
 unfold growF
 clear h hp hrow hnn hm
 go_enter Tryz.func211,Tryz.ntmps211
 go_wp2_with fail
 go_loopw [9,10] (fun iv jv wr=>∃x y:Nat,x≤m∧m≤y∧y≤n∧iv= .int .i64 x∧jv= .int .i64 y∧Hid (gX wr w.heap.size [.int .i64 j,.int .i64 a,.int .i64 0])∧Below w.heap.size w wr) (fun iv jv _=>(intOf jv-intOf iv).toNat)
 case atStart=>exact⟨0,n,om,hle,aI _,by go_num,rfl,LP,HB0.out⟩
 case round=>
  obtain⟨x,y,hx,hy,hyn,rfl,rfl,HL,hbel⟩:=hrel
  have p0:=HL.out.c 0 _ rfl;have p1:=HL.out.c 1 _ rfl;have p2:=HL.out.c 2 _ rfl;have pl:=HL.out.lt
  by_cases hxy:x<y
  ·obtain⟨d,hd⟩: ∃d,d=(x+y) / 2:=⟨_,rfl⟩
   have d1:x≤d:=om
   have d2:d<y:=om
   obtain⟨s,hs⟩: ∃s,C[d]?=some s:=⟨C[d]'(by rw[←EN.out];omega),aA _⟩
   obtain⟨p,hp,hsl,_⟩:=(HC.out.below hbel).at hs
   obtain⟨g,rfl,hg,hc0⟩:=HROW.out d p hp
   have ck:wr.cell? ⟨g,d,none⟩=some (.pointer (some ⟨p.1,0,none⟩)):=(hbel.cell (p:=⟨g,d,none⟩) hg).trans hc0
   have gl:g<wr.heap.size:=aF hg hbel.size
   have G1:=ah (fun W (b:Below wr.heap.size wr W)=>wu p s j a W (hsl.keep (Keep.of (S:=[]) b) sI sI))
   have hdi:((x:Int)+(y:Int)) / 2=(d:Int):=om
   have hdk:d<k:=om
   have HPL:=ah (PL.out d s);have HPG:=ah (PG.out d s);have HS:=ah hs;have HD:=ah hd
   obtain⟨r,hr⟩: ∃r,r=Cv s.nd s.pg j a:=⟨_,rfl⟩
   have HR:=ah (show decide (r<0)=decide (ltP s j a) by rw[hr];exact ordP_lt s j a)
   rw[←hr] at G1
   clear hr hsl hs hd hc0 hp
   have LW:Hid (∀W,Below wr.heap.size wr W→gX W w.heap.size [.int .i64 j,.int .i64 a,.int .i64 0]∧Below w.heap.size w W):=fun W b=>⟨HL.out.go b,hbel.trans (b.mono hbel.size)⟩
   cases hlt:decide (r<0) with
   |true=>
    go_wp2_with fail
    refine iw kR kR ?_
    repeat(go_big_quiet_step (((go_at_call 212;exact Calls.behind (G1.out _ (Behind.h _))))))
    refine wpQuiet_nil ?_
    intro w4 hw'
    have hb4:=iR hw'
    clear hw'
    obtain⟨c4,f4⟩:=rG hb4;have z4:=hb4.size;try simp at z4 c4 f4
    go_wp2
    go_round
    case rel=>
     have hdm:d<m:=Nat.lt_of_not_le fun q=>HPG.out q HS.out (by have:=HR.out;rw[hlt] at this;exact of_decide_eq_true this.symm)
     exact⟨d+1,y,om,om,hyn,by go_num,rfl,(LW.out _ aM).1,(LW.out _ aM).2⟩
    case measure=>simp[intOf];omega
   |false=>
    go_wp2_with fail
    refine iw kR kR ?_
    repeat(go_big_quiet_step (((go_at_call 212;exact Calls.behind (G1.out _ (Behind.h _))))))
    refine wpQuiet_nil ?_
    intro w5 hw'
    have hb5:=iR hw'
    clear hw'
    obtain⟨c5,f5⟩:=rG hb5;have z5:=hb5.size;try simp at z5 c5 f5
    go_wp2
    go_round
    case rel=>
     have hnl: ¬ltP s j a:=by have:=HR.out;rw[hlt] at this;exact of_decide_eq_false this.symm
     have hdm:m≤d:=Nat.le_of_not_lt fun q=>hnl (HPL.out q HS.out)
     exact⟨x,d,hx,hdm,om,rfl,rfl,(LW.out _ aM).1,(LW.out _ aM).2⟩
    case measure=>simp[intOf];omega
  ·obtain rfl:x=m:=by omega
   have BW:Hid (∀W,Below wr.heap.size wr W→Below w.heap.size w W):=fun W b=>hbel.trans (b.mono hbel.size)
   by_cases hxn:x<n
   ·obtain⟨s,hs⟩: ∃s,C[x]?=some s:=⟨C[x]'(by rw[←EN.out];omega),aA _⟩
    obtain⟨p,hp,hsl,_⟩:=(HC.out.below hbel).at hs
    obtain⟨g,rfl,hg,hc0⟩:=HROW.out x p hp
    have ck:wr.cell? ⟨g,x,none⟩=some (.pointer (some ⟨p.1,0,none⟩)):=(hbel.cell (p:=⟨g,x,none⟩) hg).trans hc0
    have gl:g<wr.heap.size:=aF hg hbel.size
    have G1:=ah (fun W (b:Below wr.heap.size wr W)=>wu p s j a W (hsl.keep (Keep.of (S:=[]) b) sI sI))
    have hdk:x<k:=om
    obtain⟨r,hr⟩: ∃r,r=Cv s.nd s.pg j a:=⟨_,rfl⟩
    have HB1:=HT1.out s hs
    rw[←hr] at G1 HB1
    clear HT1 HT2
    subst HB1
    clear hr hsl hs hc0 hp
    go_wp2_with fail
    refine iw kR kR ?_
    repeat(go_big_quiet_step (((go_at_call 212;exact Calls.behind (G1.out _ (Behind.h _))))))
    refine wpQuiet_nil ?_
    intro w6 hw'
    have hb6:=iR hw'
    clear hw'
    obtain⟨c6,f6⟩:=rG hb6;have z6:=hb6.size;try simp at z6 c6 f6
    go_wp2
    go_ret2
    exact⟨rfl,BW.out _ aM⟩
   ·have hb0:=HT2.out (by rw[←EN.out];omega)
    clear HT1 HT2
    subst hb0
    obtain rfl:x=n:=om
    go_wp2_with fail
    go_quiet (fail)
    go_wp2
    go_ret2
    exact⟨rfl,BW.out _ iq⟩
end
section
open Go.RowKit Go.Lib
theorem y9 {w:World} {b:Nat} {u:Value} (h:gX w b [u]):BF w (some ⟨b,0,none⟩) [u]:=
 .inr ⟨_,rfl,fun j x hj=>by
  rw[addr_add]
  cases j with
  |zero=>simp at hj;subst hj;exact h.c 0 _ rfl
  |succ j=>simp at hj⟩
def nk (B:Nat) (v:Value) (us:List Value) (i:Nat) (u:Value) (w:World) (e:Ending) (w':World):Prop:=
 ∃q k,e= .returned (.slice q (us.length+1) k)∧w'.ownsRow B 208 1 (.slice q (us.length+1) k) (us.length+1) (us.take i++u::us.drop i)∧Keep (gY v) w w'∧∀y∈gY (.slice q (us.length+1) k),y∈gY v∨w.heap.size≤y
theorem pG:(Tryz.prog.info? 208).map (·.size)=some 1:=kR
theorem ins_end {B:Nat} (v:Value) (us:List Value) (u:Value) (vb:Nat) (w:World) (hown:w.ownsRow B 208 1 v us.length us) (hu1:u.oneCell'=true) (hl:us.length≤2000) (hv:gX w vb [u]) (hB:B≤w.heap.size):
 Calls Tryz.prog 214 #[v,.int .i64 us.length,.slice (some ⟨vb,0,none⟩) 1 1] w (nk B v us us.length u w):=by
 have hsrc:BF w (some ⟨vb,0,none⟩) [u]:=y9 hv
 have HS:=ah hsrc;have HO:=ah hown;have HU:=ah hu1
 have FIN:Hid (∀q k w',w'.ownsRow B 208 1 (.slice q (us++[u]).length k) (us++[u]).length (us++[u])→w.grownBy w' v.ownBlock→((Value.slice q (us++[u]).length k).ownBlock=v.ownBlock∨(Value.slice q (us++[u]).length k).ownBlock=some w.heap.size)→nk B v us us.length u w (.returned (.slice q (us.length+1) k)) w'):=fun q k w' h1 h2 h3=>by
  have e1:(us++[u]).length=us.length+1:=sI
  rw[e1] at h1 h3
  refine⟨q,k,rfl,by simpa using h1,iK h2,mP h3⟩
 obtain⟨p,n,k,rfl,hpn⟩: ∃p n k,v= .slice p n k∧(n=us.length∧n≤k∧k≤maxLen):=by
  rcases hown.2 with⟨rfl,h3⟩|⟨g,cap,cur,rfl,hg,hh,hcap,hmax,_⟩
  ·exact⟨none,0,0,rfl,h3.symm,aI _,by unfold maxLen;omega⟩
  ·exact⟨_,_,_,rfl,rfl,hcap,hmax⟩
 obtain⟨rfl,hk,hm⟩:=hpn
 unfold maxLen at hm
 clear hsrc hown hu1 hv
 have n0:(0:Int)≤(us.length:Int):=om
 obtain⟨r,hr⟩: ∃r:Value,r= .slice p us.length k:=⟨_,rfl⟩
 go_enter Tryz.func214,Tryz.ntmps214
 go_wp2_with (first|(at_builtin;refine kP (base:=B) (v:=.slice p us.length k) (us:=us) (ms:=[u]) (p:=some ⟨vb,0,none⟩) elSlab rfl (.tmp 23) (.tmp 24) rf rf 1 rf rfl HO.out HS.out (by intro x hx;simp at hx;subst hx;exact HU.out) (by simp;omega) hB ?_;intro q2 k2 w2 hown2 hg2 ho2))
 all_goals
  have HF:=ah (FIN.out q2 k2 w2 hown2 hg2 ho2)
  clear hown2 hg2 ho2 FIN
  go_wp2
  go_ret
  first
  |(simpa using HF.out;done)
  |(have hkk:k=us.length:=by assumption
    subst hkk
    simpa using HF.out)
theorem Cx {α:Type} {rl us:List α} {u:α} {i:Nat} (hi:i≤us.length) (hl:us.length+1≤rl.length) (ht:rl.take i=us.take i):
 ((((rl.take i++[u]++rl.drop (i+1)).take (i+1)++us.drop i++(rl.take i++[u]++rl.drop (i+1)).drop (i+1+(us.drop i).length))).take (us.length+1))=us.take i++u::us.drop i:=by
 have e1:(rl.take i++[u]++rl.drop (i+1)).take (i+1)=us.take i++[u]:=by
  rw[bJ (by simp;omega),dU (by simp;omega),ht]
 rw[e1]
 rw[bJ (by simp;omega),dU (by simp;omega)]
 simp
theorem Cy {α:Type} {us rest:List α} {u:α} {i:Nat} (hi:i≤us.length) (hl:1≤rest.length):
 (((((us++rest).take (i+1)++us.drop i++(us++rest).drop (i+1+(us.drop i).length)).take i++[u]++((us++rest).take (i+1)++us.drop i++(us++rest).drop (i+1+(us.drop i).length)).drop (i+[u].length))).take (us.length+1))=us.take i++u::us.drop i:=by
 have e1:((us++rest).take (i+1)++us.drop i++(us++rest).drop (i+1+(us.drop i).length)).take i=us.take i:=by
  rw[bK,bJ (by simp;omega),List.take_take,Nat.min_eq_left om,bJ hi]
 have e2:((us++rest).take (i+1)++us.drop i++(us++rest).drop (i+1+(us.drop i).length)).drop (i+[u].length)=us.drop i++(us++rest).drop (i+1+(us.drop i).length):=by
  rw[bK,List.drop_append_of_le_length (by simp;omega),List.drop_eq_nil_of_le (by simp;omega)]
  simp
 rw[e1,e2]
 rw[←bK,bJ (by simp;omega),dU (by simp;omega)]
 simp
theorem ins_room {B:Nat} (g k i:Nat) (us rest:List Value) (u:Value) (vb:Nat) (w:World) (hR:Row1 w g 208 (us++rest)) (hk:(us++rest).length=k) (hm:k≤maxLen) (hBg:B≤g) (hr1:1≤rest.length) (hi:i<us.length) (h1: ∀x∈us,x.oneCell'=true) (hu1:u.oneCell'=true) (hl:us.length≤2000) (hv:Row1 w vb 208 [u]) (hne:vb≠g):
 Calls Tryz.prog 214 #[.slice (some ⟨g,0,none⟩) us.length k,.int .i64 i,.slice (some ⟨vb,0,none⟩) 1 1] w (nk B (.slice (some ⟨g,0,none⟩) us.length k) us i u w):=by
 obtain⟨n,hn⟩: ∃n,n=us.length:=⟨_,rfl⟩
 have hrk:n+1≤k:=by rw[←hk,hn];simp;omega
 have hdl:(us.drop i).length=n-i:=by rw[dB,hn]
 have LR:=hR.loc
 have hsp: ∀j,j<n+1→(w.cell? ⟨g,j,none⟩).isSome=true:=fun j hj=>by
  obtain⟨x,hx⟩: ∃x,(us++rest)[j]?=some x:=⟨(us++rest)[j]' om,aA _⟩
  rw[LR.c j x hx];rfl
 have hfz: ∀j,j<n+1→w.frozen? ⟨g,j,none⟩=false:=fun j hj=>LR.f j om
 have hov: ∀lb cb,(callFunc 253 #[.slice (some ⟨vb,0,none⟩) 1 1,.slice (some ⟨g,i+1,none⟩) lb cb]).run Tryz.prog w= .ok (.value (.bool false)) w:=fun lb cb=>by
  obtain⟨cv,hv1,hv2⟩:=hv
  obtain⟨cg,hg1,hg2⟩:=hR
  have kg:cg.size≠0:=by have:cg.toList.length=k:=by rw[hg2];exact hk
                        simp at this;omega
  rw[run_callFunc_extern Tryz.func253 kR kR kR (e:=Extern.SlicesOverlaps.overlaps #[198,198] #[4]) kR,
   Lib.run_overlaps_apart w 198 4 208 dK 1 (fun _=>kR) ⟨vb,0,none⟩ ⟨g,i+1,none⟩ 1 1 lb cb hne 208 208 cv.size cg.size (by simp only[World.shape?,hv1]) (by simp only[World.shape?,hg1]) kg (by simp only[World.frozen?,hv1];simp) (by simp only[World.frozen?,hv1];simp)]
  rfl
 have hcp1: ∀ty dc sc,(Builtin.copy_ #[198,198] ty #[.slice (some ⟨g,i+1,none⟩) (n-i) dc,.slice (some ⟨g,i,none⟩) (n+1-i) sc]).run Tryz.prog w.drew= .ok (goInt (us.drop i).length) (w.drew.setCells g (i+1) (us.drop i)):=fun ty dc sc=>
  run_copy_cells w.drew _ _ ty 208 g (i+1) (n-i) dc ⟨g,i,none⟩ (n+1-i) sc (us.drop i) dK pG (by rw[hdl];simp only[Nat.min_def];split<;>omega)
   (fun j v hj=>by
     rw[addr_add]
     rw[dh] at hj
     exact LR.c (i+j) v (by rw[bE (ak.1 hj).1];exact hj))
   (fun j hj=>by rw[hdl] at hj;exact hsp _ om) (fun j hj=>by rw[hdl] at hj;exact hfz _ om) (fun v hv=>h1 v (eD hv))
 obtain⟨W1,hW1⟩: ∃W1,W1=w.drew.setCells g (i+1) (us.drop i):=⟨_,rfl⟩
 have R1:=hR.drew.sets (us.drop i) (i+1) (by rw[hdl,hk];omega)
 rw[←hW1] at R1
 have L1:=R1.loc
 have l1:((us++rest).take (i+1)++us.drop i++(us++rest).drop (i+1+(us.drop i).length)).length=k:=by simp only[bM,bL,dB] at hk ⊢;omega
 have V1:Row1 W1 vb 208 [u]:=by rw[hW1];exact hv.drew.keep (jC (g:=g) (S:=[g]) _ _ (Keep.refl _ _) (.inl sI)) (by simpa using hne)
 have hcp2: ∀ty dc,(Builtin.copy_ #[198,198] ty #[.slice (some ⟨g,i,none⟩) (n+1-i) dc,.slice (some ⟨vb,0,none⟩) 1 1]).run Tryz.prog W1= .ok (goInt [u].length) (W1.setCells g i [u]):=fun ty dc=>
  run_copy_cells W1 _ _ ty 208 g i (n+1-i) dc ⟨vb,0,none⟩ 1 1 [u] dK pG (by simp only[Nat.min_def,bW];split<;>omega)
   (fun j v hj=>by rw[addr_add,fA];exact V1.loc.c j v hj)
   (fun j hj=>by
     simp at hj;subst hj
     obtain⟨x,hx⟩: ∃x,((us++rest).take (i+1)++us.drop i++(us++rest).drop (i+1+(us.drop i).length))[i+0]?=some x:=⟨_,aA (by rw[l1];omega)⟩
     rw[L1.c _ x hx];rfl) (fun j hj=>by simp at hj;subst hj;exact L1.f _ (by rw[l1];omega)) (fun v hv=>by simp at hv;subst hv;exact hu1)
 have FIN:Hid (nk B (.slice (some ⟨g,0,none⟩) n k) us i u w (.returned (.slice (some ⟨g,0,none⟩) (n+1) k)) (W1.setCells g i [u])):=by
  have R2:=R1.sets [u] i (by rw[l1];simp;omega)
  have hlen:(((us++rest).take (i+1)++us.drop i++(us++rest).drop (i+1+(us.drop i).length)).take i++[u]++((us++rest).take (i+1)++us.drop i++(us++rest).drop (i+1+(us.drop i).length)).drop (i+[u].length)).length=k:=by simp only[bM,bL,dB,bW] at l1 ⊢;omega
  have ow:=R2.own hBg (n:=n+1) (by rw[hlen];omega) (by rw[hlen];exact hm)
  rw[hlen] at ow
  have e2:=Cy (u:=u) (gT hi) hr1
  rw[←hn] at e2
  rw[e2] at ow
  refine⟨some ⟨g,0,none⟩,k,by rw[hn],by rw[←hn];exact ow,?_,fun y hy=>.inl (by simpa[gY,Value.ownBlock] using hy)⟩
  rw[hW1]
  exact jC _ _ (jC _ _ (Keep.refl _ _).drew (.inl (by simp[gY,Value.ownBlock]))) (.inl (by simp[gY,Value.ownBlock]))
 have hin:(i:Int)<(n:Int):=om
 have hi0:(0:Int)≤(i:Int):=om
 have hz2: ¬((i:Int)=(n:Int)):=om
 have hroom: ¬((k:Int)<(n:Int)+1):=om
 have hw1:IntKind.i64.wrap ((i:Int)+1)=(i:Int)+1:=bU _ om
 have htn:((i:Int)+1).toNat=i+1:=om
 have hb1:(0:Int)≤(i:Int)+1:=om
 have hb2: ¬(k=i+1):=om
 have hb3: ¬(k=i):=om
 have hb4:(i:Int)+1≤(n:Int)+1:=om
 have hb5:(i:Int)≤(n:Int)+1:=om
 have hl':n≤2000:=om
 have hi':i≤n:=om
 have HN:=ah hn
 rw[←hn]
 unfold maxLen at hm
 have mixed:Tryz.prog.follows .mixedOrders=true:=kR
 clear hR LR R1 L1 V1 hsp hfz hv hdl l1 hk hn hi hl
 rw[←hW1] at hcp1
 clear hW1
 go_enter Tryz.func214,Tryz.ntmps214
 go_wp2_with (simp only[hov])
 go_region_law (refine step_copy_runI rfl _ _ 198 198 rfl _ _ (by simp[Act.eval,Act.put]) (by simp[Act.eval,Act.put]) (hcp1 _ _ _) ?_)
 go_wp2_with (at_builtin;refine wpList_copy_runI _ rfl _ _ 198 198 rfl _ _ rfl rfl (hcp2 _ _) ?_)
 go_ret
 exact FIN.out
theorem ins_grow {B:Nat} (g i:Nat) (us:List Value) (u:Value) (vb:Nat) (w:World) (hR:Row1 w g 208 us) (hB:B≤w.heap.size) (hi:i<us.length) (h1: ∀x∈us,x.oneCell'=true) (hu1:u.oneCell'=true) (hl:us.length≤2000) (hv:Row1 w vb 208 [u]) (hne:vb≠g):
 Calls Tryz.prog 214 #[.slice (some ⟨g,0,none⟩) us.length us.length,.int .i64 i,.slice (some ⟨vb,0,none⟩) 1 1] w (nk B (.slice (some ⟨g,0,none⟩) us.length us.length) us i u w):=by
 obtain⟨n,hn⟩: ∃n,n=us.length:=⟨_,rfl⟩
 have hdl:(us.drop i).length=n-i:=by rw[dB,hn]
 have htl:(us.take i).length=i:=by rw[bL];omega
 have LR:=hR.loc
 have hbw:g<w.heap.size:=hR.lt
 have hvw:vb<w.heap.size:=hv.lt
 obtain⟨i0,hi0,hz0,hzs,hzb⟩:=info_parts (P:=Tryz.prog) (e:=208) (z:=.pointer none) (size:=1) (bytes:=8) kR
 have hkk:(n:Int)+1-(i:Int)=((n+1-i:Nat):Int):=om
 have hik:i+(n+1-i)=n+1:=om
 have hold:(Builtin.firstCells i0.size i (.slice (some ⟨g,0,none⟩) i n)).run Tryz.prog w.drew= .ok (us.take i).toArray w.drew:=by
  rw[hzs]
  exact run_firstCells_some w.drew 1 i ⟨g,0,none⟩ i n (us.take i) (by rw[htl];omega) (fun j v hj=>by
   rw[addr_add,fA]
   rw[eZ] at hj
   split at hj
   ·exact LR.c j v hj
   ·cases hj)
 have hrz: ∀ty,(Builtin.append_ #[198,3] ty #[.slice (some ⟨g,0,none⟩) i n,.int .i64 ((n:Int)+1-(i:Int))]).run Tryz.prog w=
  .ok (.slice (some ⟨w.heap.size,0,none⟩) (n+1) (grownCap w (n+1) n 208)) (w.drew.alloc (.cells ((us.take i).toArray++Builtin.zeroCells (Value.pointer none).cells (n+1-i)++Builtin.zeroCells (Value.pointer none).cells (grownCap w (n+1) n 208-(n+1))) 208)):=fun ty=>by
  have h:=Lib.run_append_grow_zeros w 198 3 ty 208 i0 _ .i64 .i64 dK bD hi0 hz0 (some ⟨g,0,none⟩) i n (us.take i) hold (n+1-i) om om om om (by rw[hzb];omega) (by rw[hzb,hik];exact growslice_fits om om)
  rw[hik] at h
  rw[hkk]
  exact h
 obtain⟨G,hG⟩: ∃G,G=grownCap w (n+1) n 208:=⟨_,rfl⟩
 obtain⟨ROW,hROW⟩: ∃ROW:Array Value,ROW=(us.take i).toArray++Builtin.zeroCells (Value.pointer none).cells (n+1-i)++Builtin.zeroCells (Value.pointer none).cells (G-(n+1)):=⟨_,rfl⟩
 rw[←hG] at hrz
 rw[←hROW] at hrz
 have hGn:n+1≤G:=by rw[hG];exact grownCap_ge w _ _ _
 have hGm:G≤maxLen:=by rw[hG];exact grownCap_le_maxLen w (n+1) n 208 (by unfold maxLen;omega)
 have hRl:ROW.toList.length=G:=by
  rw[hROW]
  simp[Builtin.zeroCells,Value.cells]
  omega
 have hRt:ROW.toList.take i=us.take i:=by
  rw[hROW]
  simp only[Array.toList_append,bK]
  rw[bJ (by rw[bL];omega)]
  simp[List.take_take]
 obtain⟨W1,hW1⟩: ∃W1,W1=w.drew.alloc (.cells ROW 208):=⟨_,rfl⟩
 rw[←hW1] at hrz
 have R1:Row1 W1 w.heap.size 208 ROW.toList:=⟨ROW,by rw[hW1];exact World.alloc_heap_new w.drew _,rfl⟩
 have K1:Keep [] w W1:=by rw[hW1];exact(Keep.refl [] w).drew.alloc _
 have V1:Row1 W1 vb 208 [u]:=hv.keep K1 sI
 have Q1:Row1 W1 g 208 us:=hR.keep K1 sI
 have D1: ∀(W:World) (b:Nat) (cs:List Value),W.heap=W1.heap→Row1 W1 b 208 cs→Row1 W b 208 cs:=fun W b cs e h=>by
  obtain⟨cur,h1,h2⟩:=h
  exact⟨cur,by rw[e];exact h1,h2⟩
 have hcpA: ∀(W:World),W.heap=W1.heap→∀ty dc,(Builtin.copy_ #[198,198] ty #[.slice (some ⟨w.heap.size,i,none⟩) (n+1-i) dc,.slice (some ⟨vb,0,none⟩) 1 1]).run Tryz.prog W= .ok (goInt [u].length) (W.setCells w.heap.size i [u]):=fun W hW ty dc=>
  run_copy_cells W _ _ ty 208 w.heap.size i (n+1-i) dc ⟨vb,0,none⟩ 1 1 [u] dK pG (by simp only[Nat.min_def,bW];split<;>omega)
   (fun j v hj=>by rw[addr_add,fA];exact(D1 W _ _ hW V1).loc.c j v hj)
   (fun j hj=>by
     simp at hj;subst hj
     obtain⟨x,hx⟩: ∃x,ROW.toList[i+0]?=some x:=⟨_,aA (by rw[hRl];omega)⟩
     rw[(D1 W _ _ hW R1).loc.c _ x hx];rfl) (fun j hj=>by simp at hj;subst hj;exact(D1 W _ _ hW R1).loc.f _ (by rw[hRl];omega)) (fun v hv=>by simp at hv;subst hv;exact hu1)
 obtain⟨W2,hW2⟩: ∃W2,W2=W1.drew.setCells w.heap.size i [u]:=⟨_,rfl⟩
 have R2:=R1.drew.sets [u] i (by rw[hRl];simp;omega)
 rw[←hW2] at R2
 have l2:(ROW.toList.take i++[u]++ROW.toList.drop (i+[u].length)).length=G:=by simp only[bM,bL,dB,bW];omega
 have Q2:Row1 W2 g 208 us:=by rw[hW2];exact Q1.drew.keep (jC (g:=w.heap.size) (S:=[w.heap.size]) _ _ (Keep.refl _ _) (.inl sI)) (by simp;omega)
 have D2: ∀(W:World) (b:Nat) (cs:List Value),W.heap=W2.heap→Row1 W2 b 208 cs→Row1 W b 208 cs:=fun W b cs e h=>by
  obtain⟨cur,h1,h2⟩:=h
  exact⟨cur,by rw[e];exact h1,h2⟩
 have hcpB: ∀(W:World),W.heap=W2.heap→∀ty dc sc,(Builtin.copy_ #[198,198] ty #[.slice (some ⟨w.heap.size,i+1,none⟩) (n-i) dc,.slice (some ⟨g,i,none⟩) (n-i) sc]).run Tryz.prog W= .ok (goInt (us.drop i).length) (W.setCells w.heap.size (i+1) (us.drop i)):=fun W hW ty dc sc=>
  run_copy_cells W _ _ ty 208 w.heap.size (i+1) (n-i) dc ⟨g,i,none⟩ (n-i) sc (us.drop i) dK pG (by rw[hdl];simp only[Nat.min_def];split<;>omega)
   (fun j v hj=>by
     rw[addr_add]
     exact(D2 W _ _ hW Q2).loc.c (i+j) v (by rwa [dh] at hj))
   (fun j hj=>by
     rw[hdl] at hj
     obtain⟨x,hx⟩: ∃x,(ROW.toList.take i++[u]++ROW.toList.drop (i+[u].length))[i+1+j]?=some x:=⟨_,aA (by rw[l2];omega)⟩
     rw[(D2 W _ _ hW R2).loc.c _ x hx];rfl)
   (fun j hj=>(D2 W _ _ hW R2).loc.f _ (by rw[hdl] at hj;rw[l2];omega)) (fun v hv=>h1 v (eD hv))
 have K2:Keep [] w W2:=by rw[hW2];exact jC _ _ K1.drew (.inr (aI _))
 have FIN:Hid (∀W:World,W.heap=W2.heap→Keep [] w W→nk B (.slice (some ⟨g,0,none⟩) n n) us i u w (.returned (.slice (some ⟨w.heap.size,0,none⟩) (n+1) G)) (W.setCells w.heap.size (i+1) (us.drop i))):=fun W hW hWK=>by
  have R3:=(D2 W _ _ hW R2).sets (us.drop i) (i+1) (by rw[hdl,l2];omega)
  have hlen:((ROW.toList.take i++[u]++ROW.toList.drop (i+[u].length)).take (i+1)++us.drop i++(ROW.toList.take i++[u]++ROW.toList.drop (i+[u].length)).drop (i+1+(us.drop i).length)).length=G:=by simp only[bM,bL,dB,bW] at l2 hdl ⊢;omega
  have ow:=R3.own hB (n:=n+1) (by rw[hlen];exact hGn) (by rw[hlen];exact hGm)
  rw[hlen] at ow
  have e2:=Cx (u:=u) (rl:=ROW.toList) (gT hi) (by rw[hRl,←hn];exact hGn) hRt
  rw[←hn] at e2
  rw[show(ROW.toList.take i++[u]++ROW.toList.drop (i+[u].length))=(ROW.toList.take i++[u]++ROW.toList.drop (i+1)) from rfl] at ow
  rw[e2] at ow
  have K3:Keep [] w (W.setCells w.heap.size (i+1) (us.drop i)):=jC _ _ hWK (.inr (aI _))
  refine⟨some ⟨w.heap.size,0,none⟩,G,by rw[←hn],by rw[←hn];exact ow,K3.wide,fun y hy=>.inr (by simp[gY,Value.ownBlock] at hy;omega)⟩
 have HW2:=ah hW2;have HK2:=ah K2
 have mixed:Tryz.prog.follows .mixedOrders=true:=kR
 have hin:(i:Int)<(n:Int):=om
 have hi0:(0:Int)≤(i:Int):=om
 have hz2: ¬((i:Int)=(n:Int)):=om
 have hroom:(n:Int)<(n:Int)+1:=om
 have hw1:IntKind.i64.wrap ((i:Int)+1)=(i:Int)+1:=bU _ om
 have htn:((i:Int)+1).toNat=i+1:=om
 have hb1:(0:Int)≤(i:Int)+1:=om
 have hGi: ¬(G=i):=om
 have hGim: ¬(G=i+1):=om
 have hci: ¬(n=i):=om
 have hb3:(i:Int)≤(n:Int):=om
 have hG63:G≤9223372036854775807:=by unfold maxLen at hGm;omega
 have hl':n≤2000:=om
 have hi':i≤n:=om
 rw[←hn]
 clear hR hkk hik hold hROW hG hRl hRt R1 K1 V1 Q1 D1 R2 l2 Q2 D2 K2 hW2 hW1 hGm hdl htl LR hv hn hi hl
 go_enter Tryz.func214,Tryz.ntmps214
 go_wp2_with (first
  |(at_builtin;refine Lib.wpList_append_run _ rfl _ _ _ _ rfl _ _ rfl rfl _ _ (hrz _) ?_)
  |(at_builtin;refine wpList_copy_runI _ rfl _ _ 198 198 rfl _ _ rfl rfl (hcpA _ rfl _ _) ?_)
  |(at_builtin;refine wpList_copy_runI _ rfl _ _ 198 198 rfl _ _ rfl rfl (hcpB _ (by rw[HW2.out];rfl) _ _ _) ?_))
 go_region_law (refine step_copy_runI rfl _ _ 198 198 rfl (.slice (some ⟨w.heap.size,i+1,none⟩) (n-i) (G-(i+1))) (.slice (some ⟨g,i,none⟩) (n-i) (n-i)) (by simp[Act.eval,Act.put]) (by simp[Act.eval,Act.put]) (hcpB _ (by rw[HW2.out];rfl) 3 (G-(i+1)) (n-i)) ?_)
 go_wp2
 go_ret
 exact FIN.out _ (by rw[HW2.out];rfl) (by have q:=HK2.out;rw[HW2.out] at q;first|exact q|exact q.drew)
theorem sins_ok {B:Nat} (v:Value) (i:Nat) (us:List Value) (u:Value) (vb:Nat) (w:World) (hown:w.ownsRow B 208 1 v us.length us) (hi:i≤us.length) (h1: ∀x∈us,x.oneCell'=true) (hu1:u.oneCell'=true) (hl:us.length≤2000) (hv:Row1 w vb 208 [u]) (hne:vb∉gY v) (hB:B≤w.heap.size):
 Calls Tryz.prog 214 #[v,.int .i64 i,.slice (some ⟨vb,0,none⟩) 1 1] w (nk B v us i u w):=by
 by_cases e:i=us.length
 ·subst e
  exact ins_end v us u vb w hown hu1 hl hv.loc hB
 ·have ho:=hown
  rcases hown.2 with⟨rfl,h3⟩|⟨g,cap,cur,rfl,hg,hh,hcap,hmax,_⟩
  ·omega
  ·obtain⟨rest,R,r1,r2,r3,r4,r5⟩:=uO ho
   have hne':vb≠g:=fun q=>hne (by rw[j6,q];rfl)
   cases rest with
   |nil=>
    rw[dM] at R r1
    obtain rfl:cap=us.length:=r1.symm
    exact ins_grow g i us u vb w R hB om h1 hu1 hl hv hne'
   |cons r rs=>exact ins_room g cap i us (r::rs) u vb w R r1 r4 r5 sI om h1 hu1 hl hv hne'
end
section
open Go.RowKit Go.Maps
attribute [local go_sem ↓] aO aP
section
variable {B:Nat} {ev:Nat→Addr} {pc pz e:Nat} {mn lw hi:Int} {O:List (List Int)} {X:List Nat} {vs:Value} {A:SA} {c:Ca} {w:World}
theorem wB (n oa:Int) (h:CS B w pc pz mn lw hi O e X vs A c) (hI:nS e c) (o1: -9223372036854775808≤oa) (o2:oa≤9223372036854775807) (m:Nat) (hm:m≤c.C.length) (hno: ∀j s,j<m→c.C[j]?=some s→xk e (n,oa) s=false) (res:Value) (k:Nat)
 (hres:(m=c.C.length∧res= .pointer none∧k=0)∨(∃s p,c.C[m]?=some s∧A[m]?=some p∧xk e (n,oa) s=true∧res= .pointer (some ⟨p.1,0,none⟩)∧k=kOf e (n,oa) s)):
 Calls Tryz.prog 119 #[.pointer (some ⟨pc,0,none⟩),.agg #[.int .i64 n,.int .i64 oa]] w fun r w'=>r= .returned (.tuple #[res,.int .i64 k])∧Below w.heap.size w w':=by
 obtain⟨qv,kv,evs,kv1,kv2,hrow⟩:=h.ch.form
 subst evs
 have e1:=hI.e1;have e2:=hI.e2
 have few:=hI.few
 have HIN:=ah hI
 have b0:Below w.heap.size w (w.alloc (.cells #[.int .i64 n,.int .i64 oa] 49)):=iq
 have HL:=ah (show gX (w.alloc (.cells #[.int .i64 n,.int .i64 oa] 49)) w.heap.size [.int .i64 n,.int .i64 oa] from gX.mk_ w [.int .i64 n,.int .i64 oa] 49 rfl)
 have HROW:=ah hrow;have HC:=ah h.ch;have HB0:=ah b0
 have CV:=ah hno;have wC:=ah hres
 have c1:=h.ch.c.c 1 _ rfl;have c2:=h.ch.c.c 2 _ rfl;have cl:=h.ch.c.lt
 obtain⟨nn,hnn⟩: ∃nn,nn=c.C.length:=⟨_,rfl⟩
 have EN:=ah hnn
 rw[←hnn] at c2 few kv1 hm
 unfold maxLen at kv2
 have en0: ¬((e:Int)=0):=om
 have en1: ¬(e=0):=om
 clear h hI hrow hnn b0 hno hres
 go_enter Tryz.func119,Tryz.ntmps119
 go_wp2_with fail
 go_loopw [14] (fun iv wr=>∃i:Nat,i≤m∧iv= .int .i64 i∧Below w.heap.size (w.alloc (.cells #[.int .i64 n,.int .i64 oa] 49)) wr∧Below w.heap.size w wr∧Hid (gX wr w.heap.size [.int .i64 n,.int .i64 oa])) (fun iv _=>nn-(intOf iv).toNat)
 case atStart=>exact⟨0,om,by go_num,aU _ _,HB0.out,HL⟩
 case round=>
  obtain⟨i,hile,rfl,hbel0,hbel,HLr⟩:=hrel
  have BW:Hid (∀W,Below wr.heap.size wr W→Below w.heap.size (w.alloc (.cells #[.int .i64 n,.int .i64 oa] 49)) W∧Below w.heap.size w W∧Hid (gX W w.heap.size [.int .i64 n,.int .i64 oa])):=fun W b=>⟨hbel0.trans (b.mono hbel.size),hbel.trans (b.mono hbel.size),HLr.out.go b⟩
  have m0:=HLr.out.c 0 _ rfl;have m1:=HLr.out.c 1 _ rfl;have ml:=HLr.out.lt
  have g1:wr.cell? ⟨pc,1,none⟩=some (.int .i64 e):=(hbel.cell (p:=⟨pc,1,none⟩) cl).trans c1
  have gl0:pc<wr.heap.size:=aF cl hbel.size
  by_cases hin:i<nn
  ·obtain⟨s,hs⟩: ∃s,c.C[i]?=some s:=⟨c.C[i]'(by rw[←EN.out];exact hin),aA _⟩
   obtain⟨p,hp,hsl,_⟩:=(HC.out.below hbel).at hs
   obtain⟨g,rfl,hg,hc0⟩:=HROW.out i p hp
   have ck:wr.cell? ⟨g,i,none⟩=some (.pointer (some ⟨p.1,0,none⟩)):=(hbel.cell (p:=⟨g,i,none⟩) hg).trans hc0
   have gl:g<wr.heap.size:=aF hg hbel.size
   have hik:i<kv:=om
   obtain⟨d0,d1,_,d3,d4,dl,dl2⟩:=hsl.cells
   have hsm:=aD hs
   obtain⟨r1,r2,r3,r4⟩:=HIN.out.rng hsm
   have hl64:s.T.length≤64:=by rw[HIN.out.len s hsm];unfold iG;exact fO _ _
   have hW:=hasS_W e1 e2 (n:=n) o1 o2 r3 r4 hl64
   obtain⟨f1,f2⟩:=offW_fit oa s.pg
   have qW:=fun h=>quo_W (oa:=oa) (pg:=s.pg) e1 h
   have KW:=ah (kOf_W (n:=n) e1 e2 o1 o2 r3 r4 hl64)
   have TB:=ah (fun(j:Nat) (b:Bool) (hj:s.T[j]?=some b)=>hsl.2.c j _ (ni hj))
   have hd:wrap64 (oa-s.pg*64)=lC oa s.pg:=by unfold lC;rw[IntWalk.i64_left]
   have qb:lC oa s.pg / (e:Int)≤9223372036854775807∨lC oa s.pg<0:=by
    by_cases q:lC oa s.pg<0
    ·exact .inr q
    ·left
     have:lC oa s.pg / (e:Int)≤lC oa s.pg:=Int.ediv_le_self _ om
     omega
   have NO:xk e (n,oa) s=false→i+1≤m:=fun hf=>by
    rcases dx i m with q|q
    ·exact q
    ·exfalso
     obtain rfl:i=m:=om
     rcases wC.out with⟨t,_⟩|⟨s',p',t1,_,t2,_⟩
     ·have:=EN.out;omega
     ·rw[hs] at t1;obtain rfl:=aH t1
      rw[hf] at t2;cases t2
   have YES:xk e (n,oa) s=true→res= .pointer (some ⟨p.1,0,none⟩)∧k=kOf e (n,oa) s:=fun ht=>by
    rcases dx i m with q|q
    ·have:=CV.out i s q hs
     rw[ht] at this;cases this
    ·obtain rfl:i=m:=by omega
     rcases wC.out with⟨t,_⟩|⟨s',p',t1,t3,_,t4,t5⟩
     ·have:=EN.out;omega
     ·rw[hs] at t1;obtain rfl:=aH t1
      rw[hp] at t3;obtain rfl:=aH t3
      exact⟨t4,t5⟩
   clear hc0
   by_cases h1:s.nd=n
   ·have b1:(s.nd==n)=true:=by simp[h1]
    have b1':decide (s.nd=n)=true:=by simp[h1]
    by_cases h2:0≤lC oa s.pg
    ·have b2:decide (0≤lC oa s.pg)=true:=decide_eq_true h2
     obtain⟨v1,v2⟩:=qW h2
     have m1':0≤lC oa s.pg % (e:Int):=Int.emod_nonneg _ om
     have m2':lC oa s.pg % (e:Int)<e:=Int.emod_lt_of_pos _ om
     have qn:(q9 e oa s.pg:Int)=lC oa s.pg / (e:Int):=by rw[←v1,fI h2]
     have nb:(q9 e oa s.pg:Int)≤9223372036854775807:=by rw[qn];omega
     have qn':=qn.symm
     clear qn
     have hwq:IntKind.i64.wrap ((q9 e oa s.pg:Nat):Int)=(q9 e oa s.pg:Int):=bU _ om
     by_cases h3:lC oa s.pg % (e:Int)=0
     ·have b3:decide (lC oa s.pg % (e:Int)=0)=true:=decide_eq_true h3
      by_cases h4:q9 e oa s.pg<s.T.length
      ·have b4:decide (q9 e oa s.pg<s.T.length)=true:=decide_eq_true h4
       have b4':decide ((q9 e oa s.pg:Int)<(s.T.length:Int))=true:=decide_eq_true om
       obtain⟨bt,hbt⟩: ∃bt,s.T[q9 e oa s.pg]?=some bt:=⟨s.T[q9 e oa s.pg],aA h4⟩
       have ct:=TB.out _ _ hbt
       have hW5:xk e (n,oa) s=bt:=by rw[hW,b1',b2,b3,b4,hbt];cases bt<;>rfl
       cases bt with
       |true=>
        obtain⟨y1,y2⟩:=YES hW5
        have y3:=KW.out hW5
        rw[←y3] at y2
        clear y3
        clear hW NO YES KW qW hs hp hsl hbt qb CV wC hsm
        generalize hdd:lC oa s.pg=d at*
        generalize q9 e oa s.pg=q at*
        generalize d % (e:Int)=rr at*
        generalize s.T.length=l at*
        subst y1 y2
        go_wp2_with fail
        go_quiet (fail)
        go_wp2_with fail
        go_quiet (fail)
        go_wp2_with fail
        go_quiet (fail)
        go_wp2
        go_ret2
        exact⟨rfl,(BW.out _ iq).2.1⟩
       |false=>
        have HNO:=ah (NO hW5)
        clear hW NO YES KW qW hbt qb CV wC hsm
        generalize hdd:lC oa s.pg=d at*
        generalize q9 e oa s.pg=q at*
        generalize d % (e:Int)=rr at*
        generalize s.T.length=l at*
        clear hs hp hsl
        go_wp2_with fail
        go_quiet (fail)
        go_wp2_with fail
        go_quiet (fail)
        go_wp2
        go_round
        case rel=>exact⟨i+1,HNO.out,by go_num,BW.out _ iq⟩
        case measure=>simp[intOf];omega
      ·have b4:decide (q9 e oa s.pg<s.T.length)=false:=decide_eq_false h4
       have b4':decide ((q9 e oa s.pg:Int)<(s.T.length:Int))=false:=decide_eq_false om
       have HNO:=ah (NO (by rw[hW,b4];simp))
       clear hW NO YES KW qW qb CV wC hsm
       generalize hdd:lC oa s.pg=d at*
       generalize q9 e oa s.pg=q at*
       generalize d % (e:Int)=rr at*
       generalize s.T.length=l at*
       clear hs hp hsl
       go_wp2_with fail
       go_quiet (fail)
       go_wp2_with fail
       go_quiet (fail)
       go_wp2
       go_round
       case rel=>exact⟨i+1,HNO.out,by go_num,BW.out _ iq⟩
       case measure=>simp[intOf];omega
     ·have b3:decide (lC oa s.pg % (e:Int)=0)=false:=decide_eq_false h3
      have b3':(lC oa s.pg % (e:Int)==0)=false:=by simpa using h3
      have HNO:=ah (NO (by rw[hW,b3];simp))
      clear hW NO YES KW qW qb CV wC hsm v1 qn' nb hwq
      generalize hdd:lC oa s.pg=d at*
      generalize d % (e:Int)=rr at*
      clear hs hp hsl
      go_wp2_with fail
      go_quiet (fail)
      go_wp2_with fail
      go_quiet (fail)
      go_wp2
      go_round
      case rel=>exact⟨i+1,HNO.out,by go_num,BW.out _ iq⟩
      case measure=>simp[intOf];omega
    ·have b2:decide (0≤lC oa s.pg)=false:=decide_eq_false h2
     have HNO:=ah (NO (by rw[hW,b2];simp))
     clear hW NO YES KW qW qb CV wC hsm
     generalize hdd:lC oa s.pg=d at*
     clear hs hp hsl
     go_wp2_with fail
     go_quiet (fail)
     go_wp2_with fail
     go_quiet (fail)
     go_wp2
     go_round
     case rel=>exact⟨i+1,HNO.out,by go_num,BW.out _ iq⟩
     case measure=>simp[intOf];omega
   ·have b1:(s.nd==n)=false:=by simp[h1]
    have b1':decide (s.nd=n)=false:=by simp[h1]
    have HNO:=ah (NO (by rw[hW,b1'];simp))
    clear hW NO YES KW qW qb CV wC hsm
    generalize hdd:lC oa s.pg=d at*
    clear hs hp hsl
    go_wp2_with fail
    go_quiet (fail)
    go_wp2_with fail
    go_quiet (fail)
    go_wp2
    go_round
    case rel=>exact⟨i+1,HNO.out,by go_num,BW.out _ iq⟩
    case measure=>simp[intOf];omega
  ·have RS:res= .pointer none∧k=0:=by
    rcases wC.out with⟨_,t1,t2⟩|⟨s',p',t1,_⟩
    ·exact⟨t1,t2⟩
    ·have:=(ak.1 t1).1
     have:=EN.out;omega
   obtain⟨rfl,rfl⟩:=RS
   obtain rfl:i=nn:=om
   go_wp2
   go_ret2
   exact⟨rfl,(BW.out _ (aU _ _)).2.1⟩
theorem CW (n oa:Int) (h:CS B w pc pz mn lw hi O e X vs A c) (hI:nS e c) (o1: -9223372036854775808≤oa) (o2:oa≤9223372036854775807) {i:Nat} (hf:vX e (n,oa) c.C=some i) {s:Sl} {p:Nat×Nat} (hs:c.C[i]?=some s) (hp:A[i]?=some p):
 Calls Tryz.prog 119 #[.pointer (some ⟨pc,0,none⟩),.agg #[.int .i64 n,.int .i64 oa]] w fun r w'=>r= .returned (.tuple #[.pointer (some ⟨p.1,0,none⟩),.int .i64 (kOf e (n,oa) s)])∧Below w.heap.size w w':=by
 obtain⟨z,hz,hh,hn⟩:=qy hf
 rw[hs] at hz;obtain rfl:=aH hz
 exact wB n oa h hI o1 o2 i (gT (ak.1 hs).1) hn _ _ (.inr ⟨s,p,hs,hp,hh,rfl,rfl⟩)
theorem CX (n oa:Int) (h:CS B w pc pz mn lw hi O e X vs A c) (hI:nS e c) (o1: -9223372036854775808≤oa) (o2:oa≤9223372036854775807) (hf:vX e (n,oa) c.C=none):
 Calls Tryz.prog 119 #[.pointer (some ⟨pc,0,none⟩),.agg #[.int .i64 n,.int .i64 oa]] w fun r w'=>r= .returned (.tuple #[.pointer none,.int .i64 (0:Nat)])∧Below w.heap.size w w':=
 wB n oa h hI o1 o2 c.C.length (aI _) (fun j s _ hs=>tZ hf s (aD hs)) _ _ (.inl ⟨rfl,rfl,rfl⟩)
end
end
end Go.Proofs.YtdcbhlcbiokbeaaGreatDoor
