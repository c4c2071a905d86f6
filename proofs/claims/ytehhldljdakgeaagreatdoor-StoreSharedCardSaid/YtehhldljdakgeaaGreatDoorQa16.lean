/- Lemmas and contracts for the claim's last text: DLie, DOut. -/
import Derived.Test.YtehhldljdakgeaaGreatDoorQa01
import Derived.Test.YtehhldljdakgeaaGreatDoorQa13
import Derived.Test.YtehhldljdakgeaaGreatDoorQa15
set_option linter.unusedSimpArgs false
set_option linter.unusedVariables false
set_option maxHeartbeats 16000000
set_option maxRecDepth 100000
namespace Go.Proofs.YtehhldljdakgeaaGreatDoor
open Go.RowKit Go.Maps
attribute [local go_sem ↓] aJ aK
section
variable {X:List Nat} {w:World} {v:Value} {l:List Ob}
theorem Oi (o:Ob): ∀l:List Ob,(o∉l)∨∃m,l[m]?=some o∧∀(j:Nat) (y:Ob),j<m→l[j]?=some y→y≠o
 |[]=>.inl sI
 |a::l=>by
  by_cases h:a=o
  ·exact .inr ⟨0,by simp[h],fun j y hj=>om⟩
  ·rcases Oi o l with q|⟨m,q1,q2⟩
   ·exact .inl (by simp;exact⟨fun r=>h r.symm,q⟩)
   ·refine .inr ⟨m+1,by simpa using q1,fun j y hj hy=> ?_⟩
    cases j with
    |zero=>simp at hy;subst hy;exact h
    |succ j=>exact q2 j y om (by simpa using hy)
theorem Oj (o:Ob) (h:lG X w v l) (hl:l.length≤65536) (m:Nat) (hm:m≤l.length) (hno: ∀(j:Nat) (y:Ob),j<m→l[j]?=some y→y≠o) (res:Int) (hres:(m=l.length∧res= -1)∨(l[m]?=some o∧res=m)):
 Calls Tryz.prog 186 #[v,.agg #[.int .i64 o.1,.int .i64 o.2]] w fun r w'=>r= .returned (.int .i64 res)∧Below w.heap.size w w':=by
 obtain⟨p,cap,rfl,hc1,hc2,_⟩:=id h;have b0:Below w.heap.size w (w.alloc (.cells #[.int .i64 o.1,.int .i64 o.2] 40)):=jK;have HL:=ah (show jD (w.alloc (.cells #[.int .i64 o.1,.int .i64 o.2] 40)) w.heap.size [.int .i64 o.1,.int .i64 o.2] from jD.mk_ w [.int .i64 o.1,.int .i64 o.2] 40 rfl);have H:=ah h;have U4:=ah hno;have FC:=ah hres;obtain⟨n,hn⟩:=eY l.length;have EN:=ah hn;rw[←hn] at hl hm ⊢;have eb:=eqO;have gb:=uX;clear h hno hres hn hc1 hc2;go_enter Tryz.func186,Tryz.ntmps186;go_wp2_with fail;go_loopw [5,8] (fun _ iv wr=>∃i:Nat,i≤m∧iv= .int .i64 i∧Below w.heap.size (w.alloc (.cells #[.int .i64 o.1,.int .i64 o.2] 40)) wr∧Below w.heap.size w wr∧Hid (jD wr w.heap.size [.int .i64 o.1,.int .i64 o.2])) (fun _ iv _=>n-(intOf iv).toNat);case atStart=>exact⟨0,om,by go_num,aO _ _,b0,HL⟩
 case round=>
  obtain⟨i,hile,rfl,hbel0,hbel,HLr⟩:=hrel;have BW:Hid (∀W,Below wr.heap.size wr W→Below w.heap.size (w.alloc (.cells #[.int .i64 o.1,.int .i64 o.2] 40)) W∧Below w.heap.size w W∧Hid (jD W w.heap.size [.int .i64 o.1,.int .i64 o.2])):=fun W b=>⟨hbel0.trans (b.mono hbel.size),hbel.trans (b.mono hbel.size),HLr.out.go b⟩
  have m0:=HLr.out.gC 0;have m1:=HLr.out.gC 1;have ml:=HLr.out.lt;by_cases hin:i<n
  ·obtain⟨y,hy⟩: ∃y,l[i]?=some y:=⟨l[i]'(by rw[←EN.out];exact hin),aA _⟩
   obtain⟨g,off,rfl,_,gl,c0,c1⟩:=((show lG X w (.slice p n cap) l by rw[EN.out];exact H.out).below hbel).at hy;have j1:(i:Int)<(n:Int):=om;by_cases e1:y=o
   ·have hm':i=m:=by
     rcases dV i m with q|q
     ·exact absurd e1 (U4.out i y q hy)
     ·omega
    have hr:res=(i:Int):=by
     rcases FC.out with⟨q1,_⟩|⟨_,q2⟩
     ·have:=EN.out;omega
     ·rw[q2,hm']
    subst e1 hr;clear hy hm';go_wp2_with fail;go_quiet (fail);go_wp2;go_ret;exact⟨rfl,(BW.out _ jK).2.1⟩
   ·have HNX:Hid (i+1≤m):=by
     rcases dV i m with q|q
     ·exact q
     ·exfalso
      have q':i=m:=om;rcases FC.out with⟨q1,_⟩|⟨q2,_⟩
      ·have:=EN.out;omega
      ·rw[←q',hy] at q2;exact e1 (aI q2)
    have hb:(o.1==y.1&&o.2==y.2)=false:=by
     cases q:(o.1==y.1&&o.2==y.2) with
     |false=>rfl
     |true=>
      simp at q;exact absurd (Prod.ext q.1.symm q.2.symm) e1
    clear hy e1;go_wp2_with fail;go_quiet (fail);go_wp2;go_round
    case rel=>exact⟨i+1,HNX.out,by go_num,BW.out _ jK⟩
    case measure=>simp[intOf];omega
  ·have hr:res= -1:=by
    rcases FC.out with⟨_,q⟩|⟨q,_⟩
    ·exact q
    ·have:=(au.1 q).1
     have:=EN.out;omega
   subst hr;go_wp2;go_ret;exact⟨rfl,(BW.out _ (aO _ _)).2.1⟩
theorem Ul (o:Ob) (h:lG X w v l) (hl:l.length≤65536):
 Calls Tryz.prog 155 #[v,.agg #[.int .i64 o.1,.int .i64 o.2]] w fun r w'=>r= .returned (.bool (decide (o∈l)))∧Below w.heap.size w w':=by
 have b0:Below w.heap.size w (w.alloc (.cells #[.int .i64 o.1,.int .i64 o.2] 40)):=jK;have HB:=ah b0;rcases Oi o l with q|⟨m,q1,q2⟩
 ·have IX:=ah (Oj o (h.below b0) hl l.length (aH _) (fun j y _ hy e=>q (e▸aF hy)) (-1) (.inl ⟨rfl,rfl⟩))
  have d:decide (o∈l)=false:=decide_eq_false q;rw[d];clear h d q b0;go_enter Tryz.func155,Tryz.ntmps155;go_wp2_with fail;refine IX.out.mono ?_;rintro r w1 ⟨rfl,hb1⟩;go_wp2;go_ret;exact⟨rfl,HB.out.trans (hb1.mono sI)⟩
 ·have IX:=ah (Oj o (h.below b0) hl m (jr (au.1 q1).1) q2 m (.inr ⟨q1,rfl⟩))
  have d:decide (o∈l)=true:=decide_eq_true (aF q1);have dm:decide ((0:Int)≤(m:Int))=true:=decide_eq_true om;rw[d];clear h d q1 q2 b0;go_enter Tryz.func155,Tryz.ntmps155;go_wp2_with fail;refine IX.out.mono ?_;rintro r w1 ⟨rfl,hb1⟩;go_wp2;go_ret;exact⟨rfl,HB.out.trans (hb1.mono sI)⟩
def liesF (b:Nat):Value:=.func (.func 157) #[] #[.pointer (some ⟨b,0,none⟩)]
theorem Um (o:Ob) (b:Nat) (h:lG X w v l) (hl:l.length≤65536) (hb:jD w b [.int .i64 o.1,.int .i64 o.2]):
 Calls Tryz.prog 157 #[v,.pointer (some ⟨b,0,none⟩)] w fun r w'=>r= .returned (.bool (decide (o∈l)))∧Below w.heap.size w w':=by
 have HH:=ah (Ul o h hl);have c0:=hb.gC 0;have c1:=hb.gC 1;have cl:=hb.lt;obtain⟨bb,hbb⟩:=eY (decide (o∈l));rw[←hbb] at HH ⊢;clear h hbb;go_enter Tryz.func157,Tryz.ntmps157;go_wp2_with fail;refine HH.out.mono ?_;rintro r w1 ⟨rfl,hb1⟩;go_wp2;go_ret;exact⟨rfl,hb1⟩
end
theorem DepB.pile {X:List Nat} {B:Nat} {w:World} {pd pc gh:Nat} {V:HV} {vp:Value} {U:List Value} {H:List Hd} {P:List (List Ob)} (h:DepB X B w pd pc gh V vp U H P):
 ∃q k,vp= .slice q P.length k∧P.length≤k∧k≤maxLen∧∀(j:Nat) (m:List Ob),P[j]?=some m→∃g p c,q=some ⟨g,0,none⟩∧g<w.heap.size∧w.cell? ⟨g,j,none⟩=some (.slice p m.length c)∧lG X w (.slice p m.length c) m:=by
 have ho:=h.row;have hul:=h.ul;rcases h.row.2 with⟨rfl,h3⟩|⟨g,cap,cur,rfl,hg,hh,hcap,hmax,_⟩
 ·refine⟨none,0,by rw[h3],om,by unfold maxLen;omega,fun j m hj=> ?_⟩
  have:=(au.1 hj).1;omega
 ·refine⟨some ⟨g,0,none⟩,cap,rfl,hcap,hmax,fun j m hj=> ?_⟩
  have hlt:=(au.1 hj).1;obtain⟨u,hu⟩: ∃u,U[j]?=some u:=⟨U[j]' om,aA _⟩;have r:=h.po j u m hu hj;obtain⟨p,c,rfl,_,_⟩:=r.isSlice;exact⟨g,p,c,rfl,(ho.lt g rfl).2,by rw[ho.cellAt j om];exact hu,r⟩
theorem FK (o:Ob): ∀P:List (List Ob),(∀m∈P,o∉m)∨∃(i:Nat) (m:List Ob),P[i]?=some m∧o∈m∧∀(j:Nat) (y:List Ob),j<i→P[j]?=some y→o∉y
 |[]=>.inl (fun m hm=>by cases hm)
 |a::P=>by
  by_cases h:o∈a
  ·exact .inr ⟨0,a,rfl,h,fun j y hj=>om⟩
  ·rcases FK o P with q|⟨i,m,q1,q2,q3⟩
   ·refine .inl fun m hm=> ?_
    rcases aB.1 hm with rfl|r
    ·exact h
    ·exact q m r
   ·refine .inr ⟨i+1,m,by simpa using q1,q2,fun j y hj hy=> ?_⟩
    cases j with
    |zero=>simp at hy;subst hy;exact h
    |succ j=>exact q3 j y om (by simpa using hy)
section
variable {X:List Nat} {w:World}
theorem FL (o:Ob) (b:Nat) (q:Option Addr) (k:Nat) (P:List (List Ob)) (hp4: ∀m∈P,m.length=4) (hpl:P.length≤65536)
 (hrow: ∀(j:Nat) (m:List Ob),P[j]?=some m→∃g p c,q=some ⟨g,0,none⟩∧g<w.heap.size∧w.cell? ⟨g,j,none⟩=some (.slice p m.length c)∧lG X w (.slice p m.length c) m) (hb:jD w b [.int .i64 o.1,.int .i64 o.2])
 (i0:Nat) (hm:i0≤P.length) (hno: ∀(j:Nat) (y:List Ob),j<i0→P[j]?=some y→o∉y) (res:Int) (hres:(i0=P.length∧res= -1)∨((∃m,P[i0]?=some m∧o∈m)∧res=i0)):
 Calls Tryz.prog 187 #[.slice q P.length k,liesF b] w fun r w'=>r= .returned (.int .i64 res)∧Below w.heap.size w w':=by
 have Bq:=ah hrow;have U4:=ah hno;have FC:=ah hres;have HB:=ah hb;have HP4:=ah hp4;obtain⟨n,hn⟩:=eY P.length;have EN:=ah hn;rw[←hn] at hpl hm ⊢;unfold liesF;clear hrow hno hres hn hb hp4;go_enter Tryz.func187,Tryz.ntmps187;go_wp2_with fail;go_loopw [5,8] (fun _ iv wr=>∃i:Nat,i≤i0∧iv= .int .i64 i∧Below w.heap.size w wr) (fun _ iv _=>n-(intOf iv).toNat);case atStart=>exact⟨0,om,by go_num,aO _ _⟩
 case round=>
  obtain⟨i,hile,rfl,hbel⟩:=hrel;have zr:=hbel.size;by_cases hin:i<n
  ·obtain⟨y,hy⟩: ∃y,P[i]?=some y:=⟨P[i]'(by rw[←EN.out];exact hin),aA _⟩
   obtain⟨g,p,c,rfl,gl,c0,ro⟩:=Bq.out i y hy;have c0':=(hbel.cell (p:=⟨g,i,none⟩) gl).trans c0;have gl':g<wr.heap.size:=om;have j1:(i:Int)<(n:Int):=om;have y4:=HP4.out y (aF hy);have LI:=ah (Um o b (ro.below hbel) om (HB.out.go hbel));rw[y4] at c0' LI;by_cases e1:o∈y
   ·have d:decide (o∈y)=true:=decide_eq_true e1
    have hm':i=i0:=by
     rcases dV i i0 with q|q
     ·exact absurd e1 (U4.out i y q hy)
     ·omega
    have hr:res=(i:Int):=by
     rcases FC.out with⟨q1,_⟩|⟨_,q2⟩
     ·have:=EN.out;omega
     ·rw[q2,hm']
    rw[d] at LI;subst hr;clear hy hm' c0 ro d e1;go_wp2_with fail;refine LI.out.mono ?_;rintro r w1 ⟨rfl,hb1⟩;go_wp2;go_ret;exact⟨rfl,hbel.trans (hb1.mono zr)⟩
   ·have d:decide (o∈y)=false:=decide_eq_false e1
    have HNX:Hid (i+1≤i0):=by
     rcases dV i i0 with q|q
     ·exact q
     ·exfalso
      have q':i=i0:=om;rcases FC.out with⟨q1,_⟩|⟨⟨m,q2,q3⟩,_⟩
      ·have:=EN.out;omega
      ·rw[←q',hy] at q2;exact e1 (by rw[aI q2];exact q3)
    rw[d] at LI;clear hy c0 ro d e1;go_wp2_with fail;refine LI.out.mono ?_;rintro r w1 ⟨rfl,hb1⟩;go_wp2;go_round
    case rel=>exact⟨i+1,HNX.out,by go_num,hbel.trans (hb1.mono zr)⟩
    case measure=>simp[intOf];omega
  ·have hr:res= -1:=by
    rcases FC.out with⟨_,q⟩|⟨⟨m,q,_⟩,_⟩
    ·exact q
    ·have:=(au.1 q).1
     have:=EN.out;omega
   subst hr;go_wp2;go_ret;exact⟨rfl,hbel⟩
theorem FM (o:Ob) (b:Nat) (q:Option Addr) (k:Nat) (P:List (List Ob)) (hp4: ∀m∈P,m.length=4) (hpl:P.length≤65536)
 (hrow: ∀(j:Nat) (m:List Ob),P[j]?=some m→∃g p c,q=some ⟨g,0,none⟩∧g<w.heap.size∧w.cell? ⟨g,j,none⟩=some (.slice p m.length c)∧lG X w (.slice p m.length c) m) (hb:jD w b [.int .i64 o.1,.int .i64 o.2]):
 Calls Tryz.prog 156 #[.slice q P.length k,liesF b] w fun r w'=>r= .returned (.bool (decide (o∈P.flatten)))∧Below w.heap.size w w':=by
 rcases FK o P with h|⟨i,m,h1,h2,h3⟩
 ·have IX:=ah (FL (X:=X) o b q k P hp4 hpl hrow hb P.length (aH _) (fun j y _ hy=>h y (aF hy)) (-1) (.inl ⟨rfl,rfl⟩))
  have d:decide (o∈P.flatten)=false:=decide_eq_false (fun r=>by
   obtain⟨m,r1,r2⟩:=List.mem_flatten.1 r;exact h m r1 r2)
  rw[d];clear hrow hb h d hp4;obtain⟨n,hn⟩:=eY P.length;rw[←hn] at IX ⊢;clear hn;go_enter Tryz.func156,Tryz.ntmps156;go_wp2_with fail;refine IX.out.mono ?_;rintro r w1 ⟨rfl,hb1⟩;go_wp2;go_ret;exact⟨rfl,hb1⟩
 ·have IX:=ah (FL (X:=X) o b q k P hp4 hpl hrow hb i (jr (au.1 h1).1) h3 i (.inr ⟨⟨m,h1,h2⟩,rfl⟩))
  have d:decide (o∈P.flatten)=true:=decide_eq_true (List.mem_flatten.2 ⟨m,aF h1,h2⟩);have dm:decide ((0:Int)≤(i:Int))=true:=decide_eq_true om;rw[d];clear hrow hb h1 h2 h3 d hp4;obtain⟨n,hn⟩:=eY P.length;rw[←hn] at IX ⊢;clear hn;go_enter Tryz.func156,Tryz.ntmps156;go_wp2_with fail;refine IX.out.mono ?_;rintro r w1 ⟨rfl,hb1⟩;go_wp2;go_ret;exact⟨rfl,hb1⟩
end
section
variable {X Y S:List Nat} {B:Nat} {ev:Nat→Addr} {w w':World} {pd pc pz gh e:Nat} {mn lw hi:Int} {O:List (List Int)} {v vp:Value} {A:SA} {V:HV} {U:List Value} {d:De} {c:Ca}
theorem Un (h:tq e c) (o:Ob):(Fh e o c.C).isSome=decide (o∈oM e c.C):=by
 cases hf:Fh e o c.C with
 |none=>
  symm
  show decide _=false;refine decide_eq_false fun hx=> ?_
  obtain⟨i,s,k,hs,hk,rfl⟩:=wM.1 hx;have h1:=Cy hf s (aF hs);have h2:GK e (u7 e s k) s=true:=(NH h.e1).2 ⟨by rw[NI h.e1 rfl];exact hk,by rw[NI h.e1 rfl]⟩;rw[h1] at h2;cases h2
 |some i=>
  obtain⟨s,hs,hh,_⟩:=y7 hf;obtain⟨k1,k2⟩:=(NH h.e1).1 hh;symm
  show decide _=true;exact decide_eq_true (wM.2 ⟨i,s,_,hs,k1,k2⟩)
theorem shas_ok (o:Ob) (h:CS B w pc pz mn lw hi O e X v A c) (hI:tq e c) (o1: -9223372036854775808≤o.2) (o2:o.2≤9223372036854775807):
 Calls Tryz.prog 125 #[.pointer (some ⟨pc,0,none⟩),.agg #[.int .i64 o.1,.int .i64 o.2]] w fun r w'=>r= .returned (.bool (decide (o∈oM e c.C)))∧Below w.heap.size w w':=by
 have b0:Below w.heap.size w (w.alloc (.cells #[.int .i64 o.1,.int .i64 o.2] 40)):=jK;have HB:=ah b0;have fm:=Un hI o;cases hf:Fh e o c.C with
 |none=>
  rw[hf] at fm;rw[←fm];have FN:=ah (U6 o.1 o.2 (h.below b0) hI o1 o2 hf);clear h hI fm hf b0;go_enter Tryz.func125,Tryz.ntmps125;go_wp2_with fail;refine FN.out.mono ?_;rintro r w1 ⟨rfl,hb1⟩;go_wp2;go_ret;exact⟨rfl,HB.out.trans (hb1.mono sI)⟩
 |some i=>
  rw[hf] at fm;rw[←fm];obtain⟨s,hs,_,_⟩:=y7 hf;obtain⟨p,hp,_,_⟩:=h.ch.at hs;have FN:=ah (U5 o.1 o.2 (h.below b0) hI o1 o2 hf hs hp);obtain⟨kk,hkk⟩:=eY (kOf e (o.1,o.2) s);rw[←hkk] at FN;clear h hI fm hf b0 hs hp hkk;go_enter Tryz.func125,Tryz.ntmps125;go_wp2_with fail;refine FN.out.mono ?_;rintro r w1 ⟨rfl,hb1⟩;go_wp2;go_ret;exact⟨rfl,HB.out.trans (hb1.mono sI)⟩
theorem Ak {H:List Hd} {o:Ob}:o∈lN H↔∃(i:Nat) (h:Hd),H[i]?=some h∧(o∈h.1∨o∈h.2):=by
 unfold lN;rw[dY];constructor
 ·rintro⟨h,hh,q⟩
  obtain⟨i,hi⟩:=List.mem_iff_getElem?.1 hh;exact⟨i,h,hi,aD.1 q⟩
 ·rintro⟨i,h,hi,q⟩
  exact⟨h,aF hi,aD.2 q⟩
theorem dlies_ok (o:Ob) (h:CD B w X pd pc pz gh mn lw hi O e v A V vp U d) (hI:oH e d):
 Calls Tryz.prog 126 #[.pointer (some ⟨pd,0,none⟩),.agg #[.int .i64 o.1,.int .i64 o.2]] w fun r w'=>r= .returned (.bool (decide (o∈held d)))∧Below w.heap.size w w':=by
 have b0:Below w.heap.size w (w.alloc (.cells #[.int .i64 o.1,.int .i64 o.2] 40)):=jK;have HL:=ah (show jD (w.alloc (.cells #[.int .i64 o.1,.int .i64 o.2] 40)) w.heap.size [.int .i64 o.1,.int .i64 o.2] from jD.mk_ w [.int .i64 o.1,.int .i64 o.2] 40 rfl);have HH:=ah h;have HI:=ah hI;have HB0:=ah b0;have c1:=h.de.d.gC 1;have cl:=h.de.d.lt;have hH4:=hI.hl;obtain⟨n,hn⟩:=eY d.H.length;have EN:=ah hn;rw[←hn] at c1 hH4;obtain⟨bb,hbb⟩:=eY (decide (o∈held d));have HBB:=ah hbb;rw[←hbb];clear h hI hn b0 hbb;go_enter Tryz.func126,Tryz.ntmps126;go_wp2_with fail;go_loopw [12] (fun iv wr=>∃i:Nat,i≤n∧iv= .int .i64 i∧Below w.heap.size w wr∧Hid (jD wr w.heap.size [.int .i64 o.1,.int .i64 o.2])∧Hid (∀(j:Nat) (h:Hd),j<i→d.H[j]?=some h→o∉h.1∧o∉h.2)) (fun iv _=>n-(intOf iv).toNat);case atStart=>exact⟨0,om,by go_num,HB0.out,HL,fun j h hj=>om⟩
 case round=>
  obtain⟨i,hile,rfl,hbel,HLr,HNO⟩:=hrel;have m0:=HLr.out.gC 0;have m1:=HLr.out.gC 1;have ml:=HLr.out.lt;have zr:=hbel.size;by_cases hin:i<n
  ·obtain⟨g,hg⟩: ∃g,d.H[i]?=some g:=⟨d.H[i]'(by rw[←EN.out];exact hin),aA _⟩
   obtain⟨⟨pa,pb⟩,hp,r1,r2,g0,g1,_,_,gl⟩:=(HH.out.below hbel).hand hg;obtain⟨qa,ca,e1,_⟩:=r1.isSlice;obtain⟨qb,cb,e2,_⟩:=r2.isSlice;simp only at e1 e2 g0 g1;subst e1 e2;have l4:=HI.out.h4 g (aF hg);have j1:(i:Int)<(n:Int):=om;have bA:Below wr.heap.size wr (wr.alloc (.cells #[.slice qa g.1.length ca,.slice qb g.2.length cb] 147)):=jK;have LA:=ah (show jD (wr.alloc (.cells #[.slice qa g.1.length ca,.slice qb g.2.length cb] 147)) wr.heap.size [.slice qa g.1.length ca,.slice qb g.2.length cb] from jD.mk_ wr [.slice qa g.1.length ca,.slice qb g.2.length cb] 147 rfl);have C1:=ah (Ul o (r1.below bA) om);have R2:=ah r2;have BA:=ah bA;have HG:=ah hg;have L42:Hid (g.2.length≤65536):=by show g.2.length≤65536;omega
   obtain⟨b1,hb1'⟩: ∃b1,b1=decide (o∈g.1):=⟨_,rfl⟩;have HB1':=ah hb1';try simp only at C1
   rw[←hb1'] at C1;obtain⟨na,hna⟩:=eY g.1.length;obtain⟨nb,hnb⟩:=eY g.2.length;rw[←hna] at C1 g0 LA BA;rw[←hnb] at C1 g1 LA R2 BA;clear r1 r2 hp hg bA hb1' l4 hna hnb;cases b1 with
   |true=>
    have hmem:o∈held d:=by
     unfold held;exact av _ (Ak.2 ⟨i,g,HG.out,.inl (of_decide_eq_true HB1'.out.symm)⟩)
    have hd:bb=true:=by rw[HBB.out];exact decide_eq_true hmem
    subst hd;clear hmem;go_wp2_with fail;refine C1.out.mono ?_;rintro r w2 ⟨rfl,hb2⟩;go_wp2;go_ret;exact⟨rfl,hbel.trans ((BA.out.trans (hb2.mono sI)).mono zr)⟩
   |false=>
    go_wp2_with fail;refine C1.out.mono ?_;rintro r w2 ⟨rfl,hb2⟩;have M2:=LA.out.go hb2;have y0:=M2.gC 0;have y1:=M2.gC 1;have yl:=M2.lt;have B2:=ah (BA.out.trans (hb2.mono sI));have HLr2:=ah (HLr.out.go B2.out);have m0:=HLr2.out.gC 0;have m1:=HLr2.out.gC 1;have ml:=HLr2.out.lt;have C2:=Ul o (R2.out.below B2.out) (by have:=L42.out;simpa using this);obtain⟨b2,hb2'⟩: ∃b2,b2=decide (o∈g.2):=⟨_,rfl⟩;have HB2':=ah hb2';try simp only at C2
    rw[←hb2'] at C2;have HC2:=ah C2;clear C1 M2 C2 hb2' hb2;cases b2 with
    |true=>
     have hmem:o∈held d:=by
      unfold held;exact av _ (Ak.2 ⟨i,g,HG.out,.inr (of_decide_eq_true HB2'.out.symm)⟩)
     have hd:bb=true:=by rw[HBB.out];exact decide_eq_true hmem
     subst hd;clear hmem;go_wp2_with fail;refine HC2.out.mono ?_;rintro r w3 ⟨rfl,hb3⟩;go_wp2;go_ret;exact⟨rfl,hbel.trans ((B2.out.trans (hb3.mono B2.out.size)).mono zr)⟩
    |false=>
     have HNO2:Hid (∀(j:Nat) (h:Hd),j<i+1→d.H[j]?=some h→o∉h.1∧o∉h.2):=fun j h hj hh=>by
      by_cases q:j=i
      ·subst q
       rw[HG.out] at hh;obtain rfl:=aI hh;exact⟨of_decide_eq_false HB1'.out.symm,of_decide_eq_false HB2'.out.symm⟩
      ·exact HNO.out j h om hh
     go_wp2_with fail;refine HC2.out.mono ?_;rintro r w3 ⟨rfl,hb3⟩;have B3:=B2.out.trans (hb3.mono B2.out.size);have HL3:=ah (HLr.out.go B3);go_wp2;go_round
     case rel=>exact⟨i+1,om,by go_num,hbel.trans (B3.mono zr),HL3,HNO2⟩
     case measure=>simp[intOf];omega
  ·obtain rfl:i=n:=by omega
   have hnm:o∉lN d.H:=fun q=>by
    obtain⟨j,g,h1,h2⟩:=Ak.1 q;have hj:=(au.1 h1).1;obtain⟨a1,a2⟩:=HNO.out j g (by rw[EN.out];exact hj) h1;rcases h2 with r|r
    ·exact a1 r
    ·exact a2 r
   have hd:decide (o∈d.P.flatten)=bb:=by
    rw[HBB.out];unfold held;simp[hnm]
   obtain⟨q,k,evp,k1,k2,hrow⟩:=(HH.out.below hbel).de.pile;have c2:=(HH.out.below hbel).de.d.gC 2;have cl2:=(HH.out.below hbel).de.d.lt;rw[evp] at c2;have pl:d.P.length≤65536:=by
    have hh:=(mW HI.out).1;have h2:=nO HI.out.c;omega
   have CF:=ah (FM (X:=X) o w.heap.size q k d.P HI.out.p4 pl hrow HLr.out);unfold liesF at CF;rw[hd] at CF;clear hnm hd hrow k1 k2 evp;go_wp2_with fail;refine CF.out.mono ?_;rintro r w2 ⟨rfl,hb2⟩;go_wp2;go_ret;exact⟨rfl,hbel.trans (hb2.mono zr)⟩
theorem E8 (o:Ob) (h:CD B w X pd pc pz gh mn lw hi O e v A V vp U d) (hI:oH e d) (o1: -9223372036854775808≤o.2) (o2:o.2≤9223372036854775807):
 Calls Tryz.prog 94 #[.pointer (some ⟨pd,0,none⟩),.agg #[.int .i64 o.1,.int .i64 o.2]] w fun r w'=>r= .returned (.bool (za e d o))∧Below w.heap.size w w':=by
 have b0:Below w.heap.size w (w.alloc (.cells #[.int .i64 o.1,.int .i64 o.2] 40)):=jK;have HL:=ah (show jD (w.alloc (.cells #[.int .i64 o.1,.int .i64 o.2] 40)) w.heap.size [.int .i64 o.1,.int .i64 o.2] from jD.mk_ w [.int .i64 o.1,.int .i64 o.2] 40 rfl);have c0:=h.de.d.gC 0;have cl:=h.de.d.lt;have HB0:=ah b0;obtain⟨W0,hW0⟩:=eY (w.alloc (.cells #[.int .i64 o.1,.int .i64 o.2] 40));have h0:=h.below b0;rw[←hW0] at HL h0 HB0;have HA:Hid (∀W,Below W0.heap.size W0 W→Calls Tryz.prog 125 #[.pointer (some ⟨pc,0,none⟩),.agg #[.int .i64 o.1,.int .i64 o.2]] W fun r w'=>r= .returned (.bool (decide (o∈oM e d.c.C)))∧Below W.heap.size W w'):=fun W b=>shas_ok o (h0.below b).cs hI.c o1 o2
 have LI:Hid (∀W,Below W0.heap.size W0 W→Calls Tryz.prog 126 #[.pointer (some ⟨pd,0,none⟩),.agg #[.int .i64 o.1,.int .i64 o.2]] W fun r w'=>r= .returned (.bool (decide (o∈held d)))∧Below W.heap.size W w'):=fun W b=>dlies_ok o (h0.below b) hI
 have k0:=h0.de.d.gC 0;have kl:=h0.de.d.lt;have m0:=HL.out.gC 0;have m1:=HL.out.gC 1;have ml:=HL.out.lt;unfold za;obtain⟨b1,hb1⟩:=eY (decide (o∈oM e d.c.C));obtain⟨b2,hb2⟩:=eY (decide (o∈held d));rw[←hb1] at HA;rw[←hb2] at LI;rw[←hb1,←hb2];clear h hI hb1 hb2 b0 h0 c0 cl;go_enter Tryz.func94,Tryz.ntmps94;go_wp2_with fail;rw[←hW0];clear hW0;cases b1 with
 |true=>
  refine jL kR kR ?_;repeat(go_big_quiet_step ((first|(go_at_call 125;exact Calls.behind (HA.out _ (Behind.h _)))|(go_at_call 126;exact Calls.behind (LI.out _ (Behind.h _))))))
  refine wpQuiet_nil ?_;intro w4 hw';have hb4:=kS hw';clear hw';obtain⟨c4,f4⟩:=xW hb4;have z4:=hb4.size;try simp at z4 c4 f4
  go_wp2;go_ret;exact⟨by cases b2<;>rfl,HB0.out.trans (hb4.mono HB0.out.size)⟩
 |false=>
  refine jL kR kR ?_;repeat(go_big_quiet_step ((first|(go_at_call 125;exact Calls.behind (HA.out _ (Behind.h _)))|(go_at_call 126;exact Calls.behind (LI.out _ (Behind.h _))))))
  refine wpQuiet_nil ?_;intro w4 hw';have hb4:=kS hw';clear hw';obtain⟨c4,f4⟩:=xW hb4;have z4:=hb4.size;try simp at z4 c4 f4
  go_wp2;go_ret;exact⟨by cases b2<;>rfl,HB0.out.trans (hb4.mono HB0.out.size)⟩
end
end Go.Proofs.YtehhldljdakgeaaGreatDoor
