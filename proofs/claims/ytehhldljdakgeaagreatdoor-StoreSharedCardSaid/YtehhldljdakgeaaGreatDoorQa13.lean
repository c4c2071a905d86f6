/- Lemmas and contracts for the claim's last text: SArith, SFind, ZNew. -/
import Derived.Test.YtehhldljdakgeaaGreatDoorQa01
import Derived.Test.YtehhldljdakgeaaGreatDoorQa10
set_option linter.unusedSimpArgs false
set_option linter.unusedVariables false
set_option maxHeartbeats 16000000
set_option maxRecDepth 100000
namespace Go.Proofs.YtehhldljdakgeaaGreatDoor
open Go.RowKit Go.Maps
attribute [local go_sem ↓] aJ aK
def sV (oa pg:Int):Int:=IntKind.i64.wrap (oa-pg*64)
theorem U3 {oa pg:Int} (h1: -9223372036854775808≤oa) (h2:oa≤9223372036854775807) (h3:0≤pg) (h4:pg<256):
 (sV oa pg=oa-pg*64)∨(oa-pg*64<0∧9223372036854000000≤sV oa pg∧sV oa pg≤9223372036854775807):=by
 unfold sV;rw[IntKind.wrap_i64];omega
theorem offW_fit (oa pg:Int): -9223372036854775808≤sV oa pg∧sV oa pg≤9223372036854775807:=by
 unfold sV;rw[IntKind.wrap_i64];omega
def xR (e:Nat) (oa pg:Int):Nat:=(sV oa pg / e).toNat
theorem hasS_W {e:Nat} (e1:1≤e) (e2:e≤64) {n oa:Int} (h1: -9223372036854775808≤oa) (h2:oa≤9223372036854775807) {s:Sl} (h3:0≤s.pg) (h4:s.pg<256) (hl:s.T.length≤64):
 GK e (n,oa) s=(decide (s.nd=n)&&decide (0≤sV oa s.pg)&&decide (sV oa s.pg % e=0)&&decide (xR e oa s.pg<s.T.length)&&(s.T[xR e oa s.pg]?==some true)):=by
 have key:(s.T[xR e oa s.pg]?==some true)=(decide (xR e oa s.pg<s.T.length)&&(s.T[xR e oa s.pg]?==some true)):=by
  by_cases hq:xR e oa s.pg<s.T.length
  ·rw[decide_eq_true hq,Bool.true_and]
  ·rw[decide_eq_false hq,Bool.false_and,List.getElem?_eq_none om];rfl
 rcases U3 h1 h2 h3 h4 with q|⟨q1,q2,q3⟩
 ·have hn:xR e oa s.pg=((oa-s.pg*64) / e).toNat:=by unfold xR;rw[q]
  rw[Bool.and_assoc,←key,q,hn];rfl
 ·have big: ¬xR e oa s.pg<s.T.length:=by
   have:sV oa s.pg / e≥9223372036854000000 / 64:=by
    calc (9223372036854000000:Int) / 64≤sV oa s.pg / 64:=by omega
     _≤sV oa s.pg / e:=by
      have he:(0:Int)<e:=om;rw[Int.le_ediv_iff_mul_le he];have h64:sV oa s.pg / 64*(e:Int)≤sV oa s.pg / 64*64:=Int.mul_le_mul_of_nonneg_left om om;omega
   unfold xR;omega
  rw[decide_eq_false big];unfold GK;rw[decide_eq_false (show¬(0:Int)≤(n,oa).2-s.pg*64 by simp only;omega)];simp
theorem kOf_W {e:Nat} (e1:1≤e) (e2:e≤64) {n oa:Int} (h1: -9223372036854775808≤oa) (h2:oa≤9223372036854775807) {s:Sl} (h3:0≤s.pg) (h4:s.pg<256) (hl:s.T.length≤64) (h:GK e (n,oa) s=true):xR e oa s.pg=kOf e (n,oa) s:=by
 rcases U3 h1 h2 h3 h4 with q|⟨q1,q2,q3⟩
 ·unfold xR kOf;rw[q]
 ·unfold GK at h
  simp only[bV,decide_eq_true_eq] at h;omega
theorem quo_W {e:Nat} (e1:1≤e) {oa pg:Int} (h:0≤sV oa pg):(sV oa pg).tdiv (e:Int)=(xR e oa pg:Int)∧(sV oa pg).tmod (e:Int)=sV oa pg % e:=by
 have hd:0≤sV oa pg / (e:Int):=Int.ediv_nonneg h om;refine⟨?_,Int.tmod_eq_emod_of_nonneg h⟩;unfold xR;rw[fB h,Int.toNat_of_nonneg hd]
section
variable {B:Nat} {ev:Nat→Addr} {pc pz e:Nat} {mn lw hi:Int} {O:List (List Int)} {X:List Nat} {vs:Value} {A:SA} {c:Ca} {w:World}
theorem FB (n oa:Int) (h:CS B w pc pz mn lw hi O e X vs A c) (hI:tq e c) (o1: -9223372036854775808≤oa) (o2:oa≤9223372036854775807) (m:Nat) (hm:m≤c.C.length) (hno: ∀j s,j<m→c.C[j]?=some s→GK e (n,oa) s=false) (res:Value) (k:Nat)
 (hres:(m=c.C.length∧res= .pointer none∧k=0)∨(∃s p,c.C[m]?=some s∧A[m]?=some p∧GK e (n,oa) s=true∧res= .pointer (some ⟨p.1,0,none⟩)∧k=kOf e (n,oa) s)):
 Calls Tryz.prog 154 #[.pointer (some ⟨pc,0,none⟩),.agg #[.int .i64 n,.int .i64 oa]] w fun r w'=>r= .returned (.tuple #[res,.int .i64 k])∧Below w.heap.size w w':=by
 obtain⟨qv,kv,evs,kv1,kv2,hrow⟩:=h.ch.form;subst evs;have e1:=hI.e1;have e2:=hI.e2;have few:=hI.few;have HIN:=ah hI;have b0:Below w.heap.size w (w.alloc (.cells #[.int .i64 n,.int .i64 oa] 40)):=jK;have HL:=ah (show jD (w.alloc (.cells #[.int .i64 n,.int .i64 oa] 40)) w.heap.size [.int .i64 n,.int .i64 oa] from jD.mk_ w [.int .i64 n,.int .i64 oa] 40 rfl);have Bq:=ah hrow;have HC:=ah h.ch;have HB0:=ah b0;have U4:=ah hno;have FC:=ah hres;have c1:=h.ch.c.gC 1;have c2:=h.ch.c.gC 2;have cl:=h.ch.c.lt;obtain⟨nn,hnn⟩:=eY c.C.length;have EN:=ah hnn;rw[←hnn] at c2 few kv1 hm;unfold maxLen at kv2;have en0: ¬((e:Int)=0):=om;have en1: ¬(e=0):=om;clear h hI hrow hnn b0 hno hres;go_enter Tryz.func154,Tryz.ntmps154;go_wp2_with fail;go_loopw [14] (fun iv wr=>∃i:Nat,i≤m∧iv= .int .i64 i∧Below w.heap.size (w.alloc (.cells #[.int .i64 n,.int .i64 oa] 40)) wr∧Below w.heap.size w wr∧Hid (jD wr w.heap.size [.int .i64 n,.int .i64 oa])) (fun iv _=>nn-(intOf iv).toNat);case atStart=>exact⟨0,om,by go_num,aO _ _,HB0.out,HL⟩
 case round=>
  obtain⟨i,hile,rfl,hbel0,hbel,HLr⟩:=hrel;have BW:Hid (∀W,Below wr.heap.size wr W→Below w.heap.size (w.alloc (.cells #[.int .i64 n,.int .i64 oa] 40)) W∧Below w.heap.size w W∧Hid (jD W w.heap.size [.int .i64 n,.int .i64 oa])):=fun W b=>⟨hbel0.trans (b.mono hbel.size),hbel.trans (b.mono hbel.size),HLr.out.go b⟩
  have m0:=HLr.out.gC 0;have m1:=HLr.out.gC 1;have ml:=HLr.out.lt;have g1:wr.cell? ⟨pc,1,none⟩=some (.int .i64 e):=(hbel.cell (p:=⟨pc,1,none⟩) cl).trans c1;have gl0:pc<wr.heap.size:=aC cl hbel.size;by_cases hin:i<nn
  ·obtain⟨s,hs⟩: ∃s,c.C[i]?=some s:=⟨c.C[i]'(by rw[←EN.out];exact hin),aA _⟩
   obtain⟨p,hp,hsl,_⟩:=(HC.out.below hbel).at hs;obtain⟨g,rfl,hg,hc0⟩:=Bq.out i p hp;have ck:wr.cell? ⟨g,i,none⟩=some (.pointer (some ⟨p.1,0,none⟩)):=(hbel.cell (p:=⟨g,i,none⟩) hg).trans hc0;have gl:g<wr.heap.size:=aC hg hbel.size;have hik:i<kv:=om;obtain⟨d0,d1,_,d3,d4,dl,dl2⟩:=hsl.cells;have hsm:=aF hs;obtain⟨r1,r2,r3,r4⟩:=HIN.out.rng hsm;have hl64:s.T.length≤64:=by rw[HIN.out.len s hsm];unfold jR;exact dN _ _
   have hW:=hasS_W e1 e2 (n:=n) o1 o2 r3 r4 hl64;obtain⟨f1,f2⟩:=offW_fit oa s.pg;have qW:=fun h=>quo_W (oa:=oa) (pg:=s.pg) e1 h
   have KW:=ah (kOf_W (n:=n) e1 e2 o1 o2 r3 r4 hl64);have TB:=ah (fun(j:Nat) (b:Bool) (hj:s.T[j]?=some b)=>hsl.2.c j _ (mY hj));have hd:wrap64 (oa-s.pg*64)=sV oa s.pg:=by unfold sV;rw[IntWalk.i64_left]
   have qb:sV oa s.pg / (e:Int)≤9223372036854775807∨sV oa s.pg<0:=by
    by_cases q:sV oa s.pg<0
    ·exact .inr q
    ·left
     have:sV oa s.pg / (e:Int)≤sV oa s.pg:=Int.ediv_le_self _ om;omega
   have NO:GK e (n,oa) s=false→i+1≤m:=fun hf=>by
    rcases dV i m with q|q
    ·exact q
    ·exfalso
     obtain rfl:i=m:=om;rcases FC.out with⟨t,_⟩|⟨s',p',t1,_,t2,_⟩
     ·have:=EN.out;omega
     ·rw[hs] at t1;obtain rfl:=aI t1
      rw[hf] at t2;cases t2
   have YES:GK e (n,oa) s=true→res= .pointer (some ⟨p.1,0,none⟩)∧k=kOf e (n,oa) s:=fun ht=>by
    rcases dV i m with q|q
    ·have:=U4.out i s q hs
     rw[ht] at this;cases this
    ·obtain rfl:i=m:=by omega
     rcases FC.out with⟨t,_⟩|⟨s',p',t1,t3,_,t4,t5⟩
     ·have:=EN.out;omega
     ·rw[hs] at t1;obtain rfl:=aI t1
      rw[hp] at t3;obtain rfl:=aI t3;exact⟨t4,t5⟩
   clear hc0;by_cases h1:s.nd=n
   ·have b1:(s.nd==n)=true:=by simp[h1]
    have b1':decide (s.nd=n)=true:=by simp[h1]
    by_cases h2:0≤sV oa s.pg
    ·have b2:decide (0≤sV oa s.pg)=true:=decide_eq_true h2
     obtain⟨v1,v2⟩:=qW h2;have m1':0≤sV oa s.pg % (e:Int):=Int.emod_nonneg _ om;have m2':sV oa s.pg % (e:Int)<e:=Int.emod_lt_of_pos _ om;have qn:(xR e oa s.pg:Int)=sV oa s.pg / (e:Int):=by rw[←v1,fB h2]
     have nb:(xR e oa s.pg:Int)≤9223372036854775807:=by rw[qn];omega
     have qn':=qn.symm;clear qn;have hwq:IntKind.i64.wrap ((xR e oa s.pg:Nat):Int)=(xR e oa s.pg:Int):=bB _ om;by_cases h3:sV oa s.pg % (e:Int)=0
     ·have b3:decide (sV oa s.pg % (e:Int)=0)=true:=decide_eq_true h3
      by_cases h4:xR e oa s.pg<s.T.length
      ·have b4:decide (xR e oa s.pg<s.T.length)=true:=decide_eq_true h4
       have b4':decide ((xR e oa s.pg:Int)<(s.T.length:Int))=true:=decide_eq_true om;obtain⟨bt,hbt⟩: ∃bt,s.T[xR e oa s.pg]?=some bt:=⟨s.T[xR e oa s.pg],aA h4⟩;have ct:=TB.out _ _ hbt;have hW5:GK e (n,oa) s=bt:=by rw[hW,b1',b2,b3,b4,hbt];cases bt<;>rfl
       cases bt with
       |true=>
        obtain⟨y1,y2⟩:=YES hW5;have y3:=KW.out hW5;rw[←y3] at y2;clear y3 hW NO YES KW qW hs hp hsl hbt qb U4 FC hsm;generalize hdd:sV oa s.pg=d at*
        generalize xR e oa s.pg=q at*
        generalize d % (e:Int)=rr at*
        generalize s.T.length=l at*
        subst y1 y2;go_wp2_with fail;go_quiet (fail);go_wp2_with fail;go_quiet (fail);go_wp2_with fail;go_quiet (fail);go_wp2;go_ret2
        exact⟨rfl,(BW.out _ jK).2.1⟩
       |false=>
        have HNO:=ah (NO hW5);clear hW NO YES KW qW hbt qb U4 FC hsm;generalize hdd:sV oa s.pg=d at*
        generalize xR e oa s.pg=q at*
        generalize d % (e:Int)=rr at*
        generalize s.T.length=l at*
        clear hs hp hsl;go_wp2_with fail;go_quiet (fail);go_wp2_with fail;go_quiet (fail);go_wp2;go_round
        case rel=>exact⟨i+1,HNO.out,by go_num,BW.out _ jK⟩
        case measure=>simp[intOf];omega
      ·have b4:decide (xR e oa s.pg<s.T.length)=false:=decide_eq_false h4
       have b4':decide ((xR e oa s.pg:Int)<(s.T.length:Int))=false:=decide_eq_false om;have HNO:=ah (NO (by rw[hW,b4];simp));clear hW NO YES KW qW qb U4 FC hsm;generalize hdd:sV oa s.pg=d at*
       generalize xR e oa s.pg=q at*
       generalize d % (e:Int)=rr at*
       generalize s.T.length=l at*
       clear hs hp hsl;go_wp2_with fail;go_quiet (fail);go_wp2_with fail;go_quiet (fail);go_wp2;go_round
       case rel=>exact⟨i+1,HNO.out,by go_num,BW.out _ jK⟩
       case measure=>simp[intOf];omega
     ·have b3:decide (sV oa s.pg % (e:Int)=0)=false:=decide_eq_false h3
      have b3':(sV oa s.pg % (e:Int)==0)=false:=by simpa using h3
      have HNO:=ah (NO (by rw[hW,b3];simp));clear hW NO YES KW qW qb U4 FC hsm v1 qn' nb hwq;generalize hdd:sV oa s.pg=d at*
      generalize d % (e:Int)=rr at*
      clear hs hp hsl;go_wp2_with fail;go_quiet (fail);go_wp2_with fail;go_quiet (fail);go_wp2;go_round
      case rel=>exact⟨i+1,HNO.out,by go_num,BW.out _ jK⟩
      case measure=>simp[intOf];omega
    ·have b2:decide (0≤sV oa s.pg)=false:=decide_eq_false h2
     have HNO:=ah (NO (by rw[hW,b2];simp));clear hW NO YES KW qW qb U4 FC hsm;generalize hdd:sV oa s.pg=d at*
     clear hs hp hsl;go_wp2_with fail;go_quiet (fail);go_wp2_with fail;go_quiet (fail);go_wp2;go_round
     case rel=>exact⟨i+1,HNO.out,by go_num,BW.out _ jK⟩
     case measure=>simp[intOf];omega
   ·have b1:(s.nd==n)=false:=by simp[h1]
    have b1':decide (s.nd=n)=false:=by simp[h1]
    have HNO:=ah (NO (by rw[hW,b1'];simp));clear hW NO YES KW qW qb U4 FC hsm;generalize hdd:sV oa s.pg=d at*
    clear hs hp hsl;go_wp2_with fail;go_quiet (fail);go_wp2_with fail;go_quiet (fail);go_wp2;go_round
    case rel=>exact⟨i+1,HNO.out,by go_num,BW.out _ jK⟩
    case measure=>simp[intOf];omega
  ·have RS:res= .pointer none∧k=0:=by
    rcases FC.out with⟨_,t1,t2⟩|⟨s',p',t1,_⟩
    ·exact⟨t1,t2⟩
    ·have:=(au.1 t1).1
     have:=EN.out;omega
   obtain⟨rfl,rfl⟩:=RS;obtain rfl:i=nn:=om;go_wp2;go_ret2
   exact⟨rfl,(BW.out _ (aO _ _)).2.1⟩
theorem U5 (n oa:Int) (h:CS B w pc pz mn lw hi O e X vs A c) (hI:tq e c) (o1: -9223372036854775808≤oa) (o2:oa≤9223372036854775807) {i:Nat} (hf:Fh e (n,oa) c.C=some i) {s:Sl} {p:Nat×Nat} (hs:c.C[i]?=some s) (hp:A[i]?=some p):
 Calls Tryz.prog 154 #[.pointer (some ⟨pc,0,none⟩),.agg #[.int .i64 n,.int .i64 oa]] w fun r w'=>r= .returned (.tuple #[.pointer (some ⟨p.1,0,none⟩),.int .i64 (kOf e (n,oa) s)])∧Below w.heap.size w w':=by
 obtain⟨z,hz,hh,hn⟩:=y7 hf;rw[hs] at hz;obtain rfl:=aI hz;exact FB n oa h hI o1 o2 i (jr (au.1 hs).1) hn _ _ (.inr ⟨s,p,hs,hp,hh,rfl,rfl⟩)
theorem U6 (n oa:Int) (h:CS B w pc pz mn lw hi O e X vs A c) (hI:tq e c) (o1: -9223372036854775808≤oa) (o2:oa≤9223372036854775807) (hf:Fh e (n,oa) c.C=none):
 Calls Tryz.prog 154 #[.pointer (some ⟨pc,0,none⟩),.agg #[.int .i64 n,.int .i64 oa]] w fun r w'=>r= .returned (.tuple #[.pointer none,.int .i64 (0:Nat)])∧Below w.heap.size w w':=
 FB n oa h hI o1 o2 c.C.length (aH _) (fun j s _ hs=>Cy hf s (aF hs)) _ _ (.inl ⟨rfl,rfl,rfl⟩)
end
theorem cfg_ok {P:List Int} {N:List (List Int)} {mn lw hi:Int} (h:tJ P N mn lw hi=0):1≤P.length∧P.length≤4∧(∀p∈P,1≤p∧p≤256)∧N.length=P.length∧(∀l∈N,l.length=P.length)∧0≤mn∧mn≤lw∧lw≤hi:=by
 unfold tJ at h;split at h
 ·omega
 split at h
 ·rename_i h1 h2
  have hb:yU P N mn lw hi=true:=by cases e:yU P N mn lw hi with|true=>rfl|false=>exact absurd e h1
  unfold yU qX at hb;unfold sqC at h2;simp at hb h2;obtain⟨⟨⟨⟨b1,b2⟩,b3⟩,_⟩,b5⟩:=hb;obtain⟨⟨s1,s2⟩,_⟩:=h2;refine⟨om,b2,fun p hp=> ?_,s1,fun l hl=> ?_,om,om,om⟩
  ·have:=b3 p hp
   unfold wX at this;simp at this;omega
  ·have:=s2 l hl
   unfold qm at this;simp at this;omega
 ·omega
theorem DR {w:World} {b:Nat} {u:Value} (h:w.cell? ⟨b,0,none⟩=some u):tZ w (some ⟨b,0,none⟩) [u]:=
 .inr ⟨_,rfl,fun j x hj=>by
  rw[addr_add];cases j with
  |zero=>simp at hj;subst hj;exact h
  |succ j=>simp at hj⟩
theorem Keep.cell0 {S:List Nat} {w w':World} (k:Keep S w w') {b:Nat} (h1:b<w.heap.size) (h2:b∉S) {u:Value} (h:w.cell? ⟨b,0,none⟩=some u):w'.cell? ⟨b,0,none⟩=some u:=(k.cell h1 h2).trans h
structure FD (B:Nat) (X:List Nat) (w:World) (pz:Nat) (cs:List Value) (qn:Option Addr) (kn:Nat) (qo:Option Addr) (ko:Nat) (i:Nat) (L:List Nd) (us:List Value) (O:List (List Int)):Prop where
 z:jD w pz (cs++[.slice qn i kn,.slice qo i ko])
 on:w.ownsRow (pz+1) 179 1 (.slice qn i kn) i (ptrs L)
 oo:w.ownsRow (pz+1) 59 1 (.slice qo i ko) i us
 ne: ∀g∈jF (.slice qn i kn),g∉jF (.slice qo i ko)
 b:GL B w L
 far: ∀x∈L,∀a,a=x.pb∨a=x.bf∨a=x.bt→a≠pz∧a∉jF (.slice qn i kn)∧a∉jF (.slice qo i ko)
 rows: ∀(j:Nat) (u:Value) (D:List Int),us[j]?=some u→O[j]?=some D→nC (ys L++pz::(jF (.slice qn i kn)++jF (.slice qo i ko))) w u (ints D)
 lO:O.length=i
 lL:L.length=i
 lu:us.length=i
theorem FD.start {B:Nat} {X:List Nat} {w:World} {pz:Nat} {cs:List Value} (h:jD w pz (cs++[.slice none 0 0,.slice none 0 0])):FD B X w pz cs none 0 none 0 0 [] [] []:=
 ⟨h,aT _ _ _ _,aT _ _ _ _,fun g hg=>by simp[jF,Value.ownBlock] at hg,⟨(fun x hx=>by cases hx),(by simp[ys]),(fun x hx=>by cases hx),(fun y hy=>by simp[ys] at hy)⟩,(fun x hx=>by cases hx),(fun j u D hj=>by simp at hj),rfl,rfl,rfl⟩
theorem FD.step {B:Nat} {X:List Nat} {w0 w3 W1 w4 W2 w6 w7:World} {pz:Nat} {cs:List Value} {qn qo qn' qo':Option Addr} {kn ko kn' ko' i:Nat} {L:List Nd} {us:List Value} {O:List (List Int)} (h:FD B X w0 pz cs qn kn qo ko i L us O)
 (hB:B≤w0.heap.size) (hb3:Below w0.heap.size w0 w3) (x:Nd) (hx:Bud w3 x.pb x.n x.bf x.bt x.F x.T) (hi:Inv x.n x.F x.T) (h1:w0.heap.size≤x.pb) (h2:w0.heap.size≤x.bf) (h3:w0.heap.size≤x.bt)
 {g cap:Nat} {D:List Int} {n:Nat} (hD:jD w3 g (ints D)) (hg:w0.heap.size≤g) (hgp:x.bf≠g∧x.bt≠g) (hn:D.length=n) (hcap:n≤cap) (hmx:cap≤maxLen)
 (K1:Keep [] w3 W1) (hg4:W1.grownBy w4 (Value.slice qn i kn).ownBlock) (ho4:(Value.slice qn' (i+1) kn').ownBlock=(Value.slice qn i kn).ownBlock∨(Value.slice qn' (i+1) kn').ownBlock=some W1.heap.size)
 (on4:w4.ownsRow (pz+1) 179 1 (.slice qn' (i+1) kn') (i+1) (ptrs (L++[x])))
 (K2:Keep [] w4 W2) (hg6:W2.grownBy w6 (Value.slice qo i ko).ownBlock) (ho6:(Value.slice qo' (i+1) ko').ownBlock=(Value.slice qo i ko).ownBlock∨(Value.slice qo' (i+1) ko').ownBlock=some W2.heap.size)
 (oo6:w6.ownsRow (pz+1) 59 1 (.slice qo' (i+1) ko') (i+1) (us++[.slice (some ⟨g,0,none⟩) n cap]))
 (hcs:cs.length=5) (e7:w7=(w6.setCell ⟨pz,5,none⟩ (.slice qn' (i+1) kn')).setCell ⟨pz,6,none⟩ (.slice qo' (i+1) ko')):
 FD B X w7 pz cs qn' kn' qo' ko' (i+1) (L++[x]) (us++[.slice (some ⟨g,0,none⟩) n cap]) (O++[D])∧Keep (pz::(jF (.slice qn i kn)++jF (.slice qo i ko))) w3 w7:=by
 have s3:=hb3.size;have zl:=h.z.lt;have sW1:=K1.size;have s4:=hg4.size;have sW2:=K2.size;have s6:=hg6.size;have onl: ∀a∈jF (.slice qn i kn),pz+1≤a∧a<w0.heap.size:=fun a ha=>jP h.on ha
 have ool: ∀a∈jF (.slice qo i ko),pz+1≤a∧a<w0.heap.size:=fun a ha=>jP h.oo ha
 have on4l: ∀a∈jF (.slice qn' (i+1) kn'),pz+1≤a∧a<w4.heap.size:=fun a ha=>jP on4 ha
 have onew: ∀a∈jF (.slice qn' (i+1) kn'),a∈jF (.slice qn i kn)∨w3.heap.size≤a:=fun a ha=>(ou ho4 a ha).imp id (fun r=>om)
 have U7: ∀a∈jF (.slice qo' (i+1) ko'),a∈jF (.slice qo i ko)∨w4.heap.size≤a:=fun a ha=>(ou ho6 a ha).imp id (fun r=>om)
 have k34:Keep (jF (.slice qn i kn)) w3 w4:=(K1.mono (fun s hs=>by cases hs)).then (jS hg4);have k46:Keep (jF (.slice qo i ko)) w4 w6:=(K2.mono (fun s hs=>by cases hs)).then (jS hg6);have k67:Keep [pz] w6 w7:=by rw[e7];exact((Keep.refl _ _).setCell (.inl sI) _).setCell (.inl sI) _
 have k47:Keep (pz::jF (.slice qo i ko)) w4 w7:=(k46.mono (fun s hs=>ak _ hs)).then (k67.mono (fun s hs=>by simp at hs;simp[hs]));have k37:Keep (pz::(jF (.slice qn i kn)++jF (.slice qo i ko))) w3 w7:=(k34.mono (fun s hs=>by simp[hs])).then (k47.mono (fun s hs=>by simp at hs ⊢;rcases hs with q|q;(·exact .inl q);(·exact .inr (.inr q))));have z3:=h.z.go hb3;have z6:jD w6 pz (cs++[.slice qn i kn,.slice qo i ko]):=(z3.keep k34 (fun q=>by have:=onl _ q;omega)).keep k46 (fun q=>by have:=ool _ q;omega);have z7:jD w7 pz (cs++[.slice qn' (i+1) kn',.slice qo' (i+1) ko']):=by
  have:=(z6.store 5 (.slice qn' (i+1) kn') (by simp[hcs])).store 6 (.slice qo' (i+1) ko') (by simp[hcs]);rw[e7];simpa[List.set_append,hcs] using this
 have bu3:=h.b.snoc hb3 x hx hi hB h1 h2 h3;have farn: ∀a,a=x.pb∨a=x.bf∨a=x.bt→a<w3.heap.size∧w0.heap.size≤a:=fun a ha=>by
  rcases ha with rfl|rfl|rfl
  ·exact⟨hx.ltp,h1⟩
  ·exact⟨hx.ltf,h2⟩
  ·exact⟨hx.ltt,h3⟩
 have far0: ∀y∈L++[x],∀a,a=y.pb∨a=y.bf∨a=y.bt→a<w3.heap.size∧a≠pz∧a∉jF (.slice qn i kn)∧a∉jF (.slice qo i ko):=fun y hy a ha=>by
  rcases aD.1 hy with q|q
  ·obtain⟨f1,f2,f3⟩:=h.far y q a ha
   have b0:=(h.b.bud y q).1;have:a<w0.heap.size:=by
    rcases ha with rfl|rfl|rfl
    ·exact b0.ltp
    ·exact b0.ltf
    ·exact b0.ltt
   exact⟨om,f1,f2,f3⟩
  ·simp at q;subst q
   obtain⟨f1,f2⟩:=farn a ha;exact⟨f1,om,fun q=>by have:=onl _ q;omega,fun q=>by have:=ool _ q;omega⟩
 have bu7:GL B w7 (L++[x]):=bu3.keep k37 (fun y hy=>by
  have a1:=far0 y hy _ (.inl rfl);have a2:=far0 y hy _ (.inr (.inl rfl));have a3:=far0 y hy _ (.inr (.inr rfl));simp only[aB,aD,not_or];exact⟨a1.2,a2.2,a3.2⟩)
 have on7:w7.ownsRow (pz+1) 179 1 (.slice qn' (i+1) kn') (i+1) (ptrs (L++[x])):=jE on4 k47 (fun a ha q=>by
  have l4:=on4l a q;simp at ha;rcases ha with rfl|ha
  ·omega
  ·rcases onew a q with r|r
   ·exact h.ne a r ha
   ·have:=ool a ha;omega)
 have oo7:w7.ownsRow (pz+1) 59 1 (.slice qo' (i+1) ko') (i+1) (us++[.slice (some ⟨g,0,none⟩) n cap]):=jE oo6 k67 (fun a ha q=>by
  simp at ha;subst ha;have:=jP oo6 q;omega)
 have gl:g<w3.heap.size:=hD.lt;have hSS: ∀s∈pz::(jF (.slice qn i kn)++jF (.slice qo i ko)),s∈ys L++pz::(jF (.slice qn i kn)++jF (.slice qo i ko)):=fun s hs=>aj _ hs
 refine⟨⟨z7,on7,oo7,fun a ha hb=> ?_,bu7,fun y hy a ha=> ?_,fun j u D' hj hD'=> ?_,by simp[h.lO],by simp[h.lL],by simp[h.lu]⟩,k37⟩
 ·rcases onew a ha with r|r
  ·rcases U7 a hb with r2|r2
   ·exact h.ne a r r2
   ·have:=onl a r;omega
  ·rcases U7 a hb with r2|r2
   ·have:=ool a r2;omega
   ·have:=(on4l a ha).2;omega
 ·obtain⟨f1,f2,f3,f4⟩:=far0 y hy a ha
  exact⟨f2,fun q=>by rcases onew a q with r|r;(·exact f3 r);(·omega),fun q=>by rcases U7 a q with r|r;(·exact f4 r);(·omega)⟩
 ·by_cases e:j<us.length
  ·rw[bG e] at hj
   rw[bG (by rw[h.lO,←h.lu];exact e)] at hD';have r0:=(h.rows j u D' hj hD').below hb3;have r1:=(h.rows j u D' hj hD').more (Y:=(ys (L++[x])++pz::(jF (.slice qn' (i+1) kn')++jF (.slice qo' (i+1) ko')))++(ys L++pz::(jF (.slice qn i kn)++jF (.slice qo i ko)))) (fun y hy=>by
    simp only[A8,aD,aB] at hy ⊢;rcases hy with((hy|hy)|hy|hy|hy)|hy
    ·exact .inl (.inl hy)
    ·simp at hy;rcases hy with rfl|rfl<;>exact .inr om
    ·exact .inl (.inr (.inl hy))
    ·rcases onew y hy with r|r
     ·exact .inl (.inr (.inr (.inl r)))
     ·exact .inr om
    ·rcases U7 y hy with r|r
     ·exact .inl (.inr (.inr (.inr r)))
     ·exact .inr om
    ·exact .inl hy)
   exact((r1.below hb3).keep k37 (fun s hs=>.inl (aj _ (hSS s hs)))).sub (fun y hy=>av _ hy)
  ·have hl:=(au.1 hj).1
   simp at hl;have e2:j=us.length:=om;subst e2;rw[bK (aH _)] at hj;rw[h.lu,←h.lO,bK (aH _)] at hD';simp at hj hD';subst hj hD';have r3:nC ((ys (L++[x])++pz::(jF (.slice qn' (i+1) kn')++jF (.slice qo' (i+1) ko')))++(pz::(jF (.slice qn i kn)++jF (.slice qo i ko)))) w3 (.slice (some ⟨g,0,none⟩) n cap) (ints D):=by
    have:=wD (X:=(ys (L++[x])++pz::(jF (.slice qn' (i+1) kn')++jF (.slice qo' (i+1) ko')))++(pz::(jF (.slice qn i kn)++jF (.slice qo i ko)))) (cap:=cap) hD (fun q=>by
     simp only[A8,aD,aB] at q;rcases q with((q|q)|q|q|q)|q|q|q
     ·have:=(h.b.lim g q).2;omega
     ·simp at q;rcases q with q|q
      ·exact hgp.1 q.symm
      ·exact hgp.2 q.symm
     ·omega
     ·rcases onew g q with r|r
      ·have:=onl g r;omega
      ·omega
     ·rcases U7 g q with r|r
      ·have:=ool g r;omega
      ·omega
     ·omega
     ·have:=onl g q;omega
     ·have:=ool g q;omega) (by rw[kW];omega) hmx
    rwa [kW,hn] at this
   exact(r3.keep k37 (fun s hs=>.inl (aj _ hs))).sub (fun y hy=>av _ hy)
def yB (X:List Nat) (P:List Int) (N:List (List Int)) (w w1:World) (n:Nat) (cs:List Value) (i:Nat) (qn qo:Option Addr) (kn ko:Nat) (L:List Nd) (us:List Value) (O:List (List Int)) (wr:World):Prop:=
 FD w.heap.size X wr w1.heap.size cs qn kn qo ko i L us O∧L.map (·.n)=P.take i∧(∀x∈L,x.F=uH 0 x.n∧x.T=[])∧(∀(j:Nat) (l D:List Int),N[j]?=some l→O[j]?=some D→rV l n D)∧Below w1.heap.size w1 wr
theorem yB.next {X:List Nat} {P:List Int} {N:List (List Int)} {w w1 wr w2 w3 W1 w4 W2 w6:World} {n i:Nat} {cs:List Value} {qn qo qn' qo':Option Addr} {kn ko kn' ko':Nat} {L:List Nd} {us:List Value} {O:List (List Int)} (h:yB X P N w w1 n cs i qn qo kn ko L us O wr)
 (KW:Below w.heap.size w wr) (hb2:Below wr.heap.size wr w2) (hb3:Below w2.heap.size w2 w3) {pb bf bt:Nat} {x:Int} (EA:Bud w2 pb x bf bt (uH 0 x) []) (hx:1≤x∧x≤256) (g1:wr.heap.size≤pb) (g2:wr.heap.size≤bf) (g3:wr.heap.size≤bt)
 {g cp:Nat} {D l:List Int} (hD:jD w3 g (ints D)) (hg:w2.heap.size≤g) (hO:rV l n D) (hcap:n≤cp) (hmx:cp≤maxLen) (hP:P[i]?=some x) (hN:N[i]?=some l)
 (K1:Keep [] w3 W1) (hg4:W1.grownBy w4 (Value.slice qn i kn).ownBlock) (ho4:(Value.slice qn' (i+1) kn').ownBlock=(Value.slice qn i kn).ownBlock∨(Value.slice qn' (i+1) kn').ownBlock=some W1.heap.size)
 (on4:w4.ownsRow (w1.heap.size+1) 179 1 (.slice qn' (i+1) kn') (i+1) (ptrs L++[.pointer (some ⟨pb,0,none⟩)]))
 (K2:Keep [] w4 W2) (hg6:W2.grownBy w6 (Value.slice qo i ko).ownBlock) (ho6:(Value.slice qo' (i+1) ko').ownBlock=(Value.slice qo i ko).ownBlock∨(Value.slice qo' (i+1) ko').ownBlock=some W2.heap.size)
 (oo6:w6.ownsRow (w1.heap.size+1) 59 1 (.slice qo' (i+1) ko') (i+1) (us++[.slice (some ⟨g,0,none⟩) n cp])) (hcs:cs.length=5):
 yB X P N w w1 n cs (i+1) qn' qo' kn' ko' (L++[⟨pb,bf,bt,x,uH 0 x,[]⟩]) (us++[.slice (some ⟨g,0,none⟩) n cp]) (O++[D]) ((w6.setCell ⟨w1.heap.size,5,none⟩ (.slice qn' (i+1) kn')).setCell ⟨w1.heap.size,6,none⟩ (.slice qo' (i+1) ko')):=by
 obtain⟨st,hLn,hLF,hOO,hbel⟩:=h;have z2:=hb2.size;have hlf:=EA.ltf;have hlt:=EA.ltt;have zl:=st.z.lt;obtain⟨s1,k37⟩:=st.step KW.size (hb2.trans (hb3.mono z2)) ⟨pb,bf,bt,x,uH 0 x,[]⟩ (EA.below hb3) (Inv.start hx.1 hx.2) g1 g2 g3 hD om (by simp;omega) hO.len hcap hmx K1 hg4 ho4 (by rw[TJ];exact on4) K2 hg6 ho6 oo6 hcs rfl;refine⟨s1,?_,fun y hy=> ?_,fun j l' D' hj hD'=> ?_,?_⟩
 ·rw[dI,hLn,bT,hP];rfl
 ·rcases aD.1 hy with q|q
  ·exact hLF y q
  ·simp at q;subst q;exact⟨rfl,rfl⟩
 ·by_cases e:j<O.length
  ·rw[bG e] at hD'
   exact hOO j l' D' hj hD'
  ·have hl:=(au.1 hD').1
   simp at hl;have e2:j=i:=by have:=st.lO;omega
   subst e2;rw[hN] at hj;obtain rfl:=aI hj;rw[bK om] at hD';have:j-O.length=0:=om;rw[this] at hD';simp at hD';subst hD';exact hO
 ·have z3:=hb3.size
  have zr:=hbel.size;refine hbel.trans (((hb2.mono zr).trans (hb3.mono om)).trans (k37.below om fun s hs=> ?_));simp at hs;rcases hs with rfl|hs|hs
  ·exact aH _
  ·have:=jP st.on hs;omega
  ·have:=jP st.oo hs;omega
theorem yB.fin {X:List Nat} {P:List Int} {N:List (List Int)} {w w1 wr:World} {n:Nat} {u0 u1:Value} {mn lw hi:Int} {qn qo:Option Addr} {kn ko:Nat} {L:List Nd} {us:List Value} {O:List (List Int)} (h:yB X P N w w1 n [u0,u1,.int .i64 mn,.int .i64 lw,.int .i64 hi] n qn qo kn ko L us O wr)
 (hm:0≤mn∧mn≤lw∧lw≤hi∧hi≤9223372036854775807) (hN:N.length=n):
 oz w.heap.size ((wr.setCell ⟨w1.heap.size,0,none⟩ (.slice none 0 0)).setCell ⟨w1.heap.size,1,none⟩ (.slice none 0 0)) w1.heap.size mn lw hi O L:=by
 obtain⟨st,hLn,hLF,hOO,hbel⟩:=h;have lL:=st.lL;have k:Keep [w1.heap.size] wr ((wr.setCell ⟨w1.heap.size,0,none⟩ (.slice none 0 0)).setCell ⟨w1.heap.size,1,none⟩ (.slice none 0 0)):=((Keep.refl _ _).setCell (p:=⟨w1.heap.size,0,none⟩) (.inl sI) _).setCell (p:=⟨w1.heap.size,1,none⟩) (.inl sI) _;have hy: ∀y∈ys L,y≠w1.heap.size∧y∉jF (.slice qn n kn)∧y∉jF (.slice qo n ko):=fun y hy=>by
  obtain⟨x,hx,q⟩:=uz.1 hy;exact st.far x hx y (.inr q)
 refine⟨⟨qn,kn,qo,ko,?_,?_,?_⟩,?_,?_,?_,hm⟩
 ·rw[lL]
  exact(st.z.store 0 (.slice none 0 0) sI).store 1 (.slice none 0 0) sI
 ·rw[lL]
  have lp:(ptrs L).length=n:=by rw[wI];exact lL
  have o:=st.on;rw[←lp] at o hy ⊢;have r:=oL (X:=w1.heap.size::ys L) o (fun x hx g hg e=>by
   rcases aB.1 hx with rfl|hx
   ·have:=o.lt g hg;omega
   ·exact(hy x hx).2.1 (nQ.2 (e▸hg)))
  exact(r.keep k (fun s hs=>by simp at hs;subst hs;exact .inl sI)).sub (fun s hs=>ak _ hs)
 ·rw[lL]
  refine⟨us,by rw[st.lu,st.lO],?_,fun j u D hj hD=> ?_⟩
  ·have o:=st.oo
   have lu:=st.lu;rw[←lu] at o hy ⊢;have r:=oL (X:=w1.heap.size::ys L) o (fun x hx g hg e=>by
    rcases aB.1 hx with rfl|hx
    ·have:=o.lt g hg;omega
    ·exact(hy x hx).2.2 (nQ.2 (e▸hg)))
   exact(r.keep k (fun s hs=>by simp at hs;subst hs;exact .inl sI)).sub (fun s hs=>ak _ hs)
  ·have r:=st.rows j u D hj hD
   exact(r.keep k (fun s hs=>by simp at hs;subst hs;exact .inl sI)).sub (fun s hs=>av _ hs)
 ·exact st.b.keep k (fun x hx=>by
   have a1:=(st.far x hx _ (.inl rfl)).1;have a2:=(st.far x hx _ (.inr (.inl rfl))).1;have a3:=(st.far x hx _ (.inr (.inr rfl))).1;simp;exact⟨a1,a2,a3⟩)
 ·exact fun q=>(hy _ q).1 rfl
 ·refine⟨by rw[st.lO,lL],fun D hD=> ?_⟩
  obtain⟨j,hj⟩:=dh hD;have hjl:=(au.1 hj).1;have hjn:j<N.length:=by rw[hN,←st.lO];exact hjl
  have o:=hOO j N[j] D (aA hjn) hj;rw[lL];exact⟨o.len,o.mem⟩
def NewPost (P:List Int) (N:List (List Int)) (mn lw hi:Int) (w:World) (e:Ending) (w':World):Prop:=
 ∃(pz:Nat) (O:List (List Int)) (L:List Nd),e= .returned (.tuple #[.pointer (some ⟨pz,0,none⟩),.nilIface])∧oz w.heap.size w' pz mn lw hi O L∧w.heap.size≤pz∧L.map (·.n)=P∧(∀x∈L,x.F=uH 0 x.n∧x.T=[])∧(∀(i:Nat) (l D:List Int),N[i]?=some l→O[i]?=some D→rV l P.length D)∧Below w.heap.size w w'
theorem QK {B:Nat} {ev:Nat→Addr} (X:List Nat) (vP vN:Value) (P:List Int) (N:List (List Int)) (mn lw hi:Int) (w:World) (hE:yT B ev w) (h:Cfg X w vP vN P N) (hc:tJ P N mn lw hi=0) (hhi:hi≤9223372036854775807):
 Calls Tryz.prog 44 #[.agg #[vP,vN,.int .i64 mn,.int .i64 lw,.int .i64 hi]] w (NewPost P N mn lw hi w):=by
 have hB:=hE.size;obtain⟨c1,c2,c3,c4,c5,c6,c7,c8⟩:=cfg_ok hc;obtain⟨p,cap,rfl,hcp,hmx,hcl⟩:=h.p.int;obtain⟨q,k,rfl,hck,hkm,_⟩:=h.n.form;have L0:jD (w.alloc (.cells [.slice p P.length cap,.slice q N.length k,.int .i64 mn,.int .i64 lw,.int .i64 hi].toArray 103)) w.heap.size [.slice p P.length cap,.slice q N.length k,.int .i64 mn,.int .i64 lw,.int .i64 hi]:=jD.new w _ _;have hb0:Below w.heap.size w (w.alloc (.cells [.slice p P.length cap,.slice q N.length k,.int .i64 mn,.int .i64 lw,.int .i64 hi].toArray 103)):=jK;have CH:=Fa X _ _ P N mn lw hi _ (hE.below (hb0.mono hB)) (h.below hb0);rw[hc,show jW ev 0=Value.nilIface from rfl] at CH;have CH':=ah CH;have HL0:=ah L0;have HB0:=ah hb0;have HH:=ah h;have HC:=ah hc;have CLl:=ah hcl;have C3:=ah c3;have C4:=ah c4;have C5:=ah c5;obtain⟨n,hn⟩:=eY P.length;rw[c4] at HL0 HB0 HH CH' hck ⊢;rw[←hn] at c1 c2 HL0 HB0 HH CH' hck hcp ⊢;have HN:=ah hn;have C4':Hid (N.length=n):=by show _=_;rw[C4.out];exact HN.out.symm
 unfold maxLen at hmx hkm;clear CH h hc hn hb0 L0 c3 c4 c5 hcl;go_enter Tryz.func44,Tryz.ntmps44;go_wp2_with fail;refine CH'.out.mono ?_;rintro e w1 ⟨rfl,hb1⟩;have K1:Below w.heap.size w w1:=HB0.out.trans (hb1.mono sI);have M0:=ah (HL0.out.go hb1);have z1:=K1.size;have m0:=M0.out.gC 0;have m1:=M0.out.gC 1;have m2:=M0.out.gC 2;have m3:=M0.out.gC 3;have m4:=M0.out.gC 4;have ml:=M0.out.lt;clear CH' HL0 HB0 hb1;have ST0:Hid (FD w.heap.size X (w1.alloc (.cells #[.slice p n cap,.slice q n k,.int .i64 mn,.int .i64 lw,.int .i64 hi,.slice none 0 0,.slice none 0 0] 178)) w1.heap.size [.slice p n cap,.slice q n k,.int .i64 mn,.int .i64 lw,.int .i64 hi] none 0 none 0 0 [] [] []):=FD.start (jD.new w1 [.slice p n cap,.slice q n k,.int .i64 mn,.int .i64 lw,.int .i64 hi,.slice none 0 0,.slice none 0 0] _);have B0:Below w1.heap.size w1 (w1.alloc (.cells #[.slice p n cap,.slice q n k,.int .i64 mn,.int .i64 lw,.int .i64 hi,.slice none 0 0,.slice none 0 0] 178)):=jK;go_wp2_with fail;go_loopw [22] (fun iv wr=>∃(i:Nat) (qn qo:Option Addr) (kn ko:Nat) (L:List Nd) (us:List Value) (O:List (List Int)),i≤n∧iv= .int .i64 i∧yB X P N w w1 n [.slice p n cap,.slice q n k,.int .i64 mn,.int .i64 lw,.int .i64 hi] i qn qo kn ko L us O wr) (fun iv _=>n-(intOf iv).toNat);case atStart=>exact⟨0,none,none,0,0,[],[],[],bq _,by go_num,ST0.out,(show _=_ by simp),(fun x hx=>by cases hx),(fun j l D _ hD=>by simp at hD),B0⟩
 case round=>
  obtain⟨i,qn,qo,kn,ko,L,us,O,hiN,rfl,hR⟩:=hrel;have HR:=ah hR;have ST:=ah hR.1;have hbel:=hR.2.2.2.2;clear hR ST0 B0;have zr:=hbel.size;have zl:w1.heap.size<wr.heap.size:=ST.out.z.lt;have KW:Below w.heap.size w wr:=K1.trans (hbel.mono z1);by_cases hin:i<n
  ·obtain⟨x,hx⟩: ∃x,P[i]?=some x:=⟨P[i]'(by rw[←HN.out];exact hin),aA _⟩
   obtain⟨l,hl⟩: ∃l,N[i]?=some l:=⟨N[i]'(by rw[C4.out,←HN.out];exact hin),aA _⟩;obtain⟨gp,op,rfl,_,hgp,hcx⟩:=CLl.out i x hx;have r1:=(KW.cell (p:=⟨gp,op+i,none⟩) hgp).trans hcx;have gr:gp<wr.heap.size:=om;have hxr:=C3.out x (aF hx);have NB:=ah (new_ok x wr hxr.1 hxr.2);have HX1:=ah hx;have HL1:=ah hl;clear hcx hx hl;go_wp2_with fail;refine NB.out.mono ?_;rintro e w2 ⟨pb,bf,bt,rfl,EA,⟨g1,g2,g3⟩,hb2⟩;have HBU:=ah EA;have z2:=hb2.size;have K2:Below w.heap.size w w2:=KW.trans (hb2.mono om);have M2:=((M0.out.go hbel).go hb2);have a0:=M2.gC 0;have a1:=M2.gC 1;have a2:=M2.gC 2;have a3:=M2.gC 3;have a4:=M2.gC 4;have al:=M2.lt;have OK':=order_ok X _ _ P N mn lw hi i l w2 (hE.below (K2.mono hB)) (HH.out.below K2) HC.out HL1.out (C5.out l (aF HL1.out)) C4.out (by rw[←HN.out];exact c2);rw[←HN.out] at OK';have OK2:=ah OK';clear NB EA M2 OK';go_wp2_with fail;refine OK2.out.mono ?_;rintro e w3 ⟨g,cp,D,rfl,hO,hD,hg,hgc,hgm,hb3⟩;have KR3:Below wr.heap.size wr w3:=hb2.trans (hb3.mono z2);have HOD:=ah hO;have HDD:=ah hD;have Z3:=ah (ST.out.z.go KR3);have y5:=Z3.out.gC 5;have y6:=Z3.out.gC 6;have yl:=Z3.out.lt;have z3:=KR3.size;clear hO hD OK2 a0 a1 a2 a3 a4 al;have lp:(ptrs L).length=i:=by rw[wI];exact ST.out.lL
   have lu:=ST.out.lu;have ON:Hid (∀W,Keep [] w3 W→W.ownsRow (w1.heap.size+1) 179 1 (.slice qn i kn) (ptrs L).length (ptrs L)):=fun W k=>by rw[lp];exact jE ST.out.on ((Keep.of (S:=[]) KR3).then k) (fun x hx=>by cases hx)
   have Z4:Hid (∀W1 w4 W2,Keep [] w3 W1→W1.grownBy w4 (Value.slice qn i kn).ownBlock→Keep [] w4 W2→jD W2 w1.heap.size [.slice (some ⟨gp,op,none⟩) n cap,.slice q n k,.int .i64 mn,.int .i64 lw,.int .i64 hi,.slice qn i kn,.slice qo i ko]):=fun W1 w4 W2 k1 hg k2=>((Z3.out.keep k1 sI).keep (jS hg) (fun hq=>by have:=jP ST.out.on hq;omega)).keep k2 sI
   have OO:Hid (∀W1 w4 W2,Keep [] w3 W1→W1.grownBy w4 (Value.slice qn i kn).ownBlock→Keep [] w4 W2→W2.ownsRow (w1.heap.size+1) 59 1 (.slice qo i ko) us.length us):=fun W1 w4 W2 k1 hg k2=>by
    rw[lu];exact jE (jE (jE ST.out.oo ((Keep.of (S:=[]) KR3).then k1) (fun x hx=>by cases hx)) (jS hg) (fun x hx q=>ST.out.ne x hx q)) k2 (fun x hx=>by cases hx)
   have Z6:Hid (∀W1 w4 W2 w6,Keep [] w3 W1→W1.grownBy w4 (Value.slice qn i kn).ownBlock→Keep [] w4 W2→W2.grownBy w6 (Value.slice qo i ko).ownBlock→jD w6 w1.heap.size [.slice (some ⟨gp,op,none⟩) n cap,.slice q n k,.int .i64 mn,.int .i64 lw,.int .i64 hi,.slice qn i kn,.slice qo i ko]):=fun W1 w4 W2 w6 k1 hg k2 hg6=>(Z4.out W1 w4 W2 k1 hg k2).keep (jS hg6) (fun hq=>by have:=jP ST.out.oo hq;omega)
   have NOX:Hid (∀b,w3.heap.size≤b→b∉jF (.slice qn i kn)):=fun b hb q=>by have:=(jP ST.out.on q).2;omega
   have SZ:Hid (∀W,Keep [] w3 W→w1.heap.size+1≤W.heap.size):=fun W k=>by have:=k.size;omega
   have E4:Hid ((ptrs L++[Value.pointer (some ⟨pb,0,none⟩)]).length=i+1):=by show _=_;simp[lp]
   have E6:Hid ((us++[Value.slice (some ⟨g,0,none⟩) n cp]).length=i+1):=by show _=_;simp[lu]
   have HLP:=ah lp;have HLU:=ah lu;clear lp lu;go_wp2_with fail;go_region_law (first
    |(refine qC (base:=w1.heap.size+1) (v:=.slice qn i kn) (us:=ptrs L) (ms:=[.pointer (some ⟨pb,0,none⟩)]) elNode rf (.tmp 49) (.tmp 51) rf rf 1 rf rfl (ON.out _ (by repeat(first|exact Keep.refl _ _|refine Keep.alloc ?_ _|refine Keep.drew ?_))) (by refine DR ?_;(try simp only[fP]);first|(rw[aZ _ _ _ _ (by first|omega|(simp;omega)|(simp;done))];rfl)|(rw[eD _ _ _ (by first|omega|(simp;omega)|(simp;done))];rw[aZ _ _ _ _ (by first|omega|(simp;omega)|(simp;done))];rfl)) (by intro x hx;simp at hx;subst hx;rfl) (by rw[HLP.out];simp;omega) (SZ.out _ (by repeat(first|exact Keep.refl _ _|refine Keep.alloc ?_ _|refine Keep.drew ?_))) ?_;intro qn' kn' w4 jV hg4 ho4;rw[E4.out] at jV ho4 ⊢;have X4:=Z4.out _ w4 w4 (by repeat(first|exact Keep.refl _ _|refine Keep.alloc ?_ _|refine Keep.drew ?_)) hg4 (Keep.refl _ _);have v6:=X4.gC 6;have vl:=X4.lt;clear X4)
    |(refine qC (base:=w1.heap.size+1) (v:=.slice qo i ko) (us:=us) (ms:=[.slice (some ⟨g,0,none⟩) n cp]) elRow rf (.tmp 56) (.tmp 58) rf rf 1 rf rfl (OO.out _ w4 _ (by repeat(first|exact Keep.refl _ _|refine Keep.alloc ?_ _|refine Keep.drew ?_)) hg4 (by repeat(first|exact Keep.refl _ _|refine Keep.alloc ?_ _|refine Keep.drew ?_))) (by refine DR ?_;(try simp only[fP]);first|(rw[aZ _ _ _ _ (by first|omega|(simp;omega)|(simp;done))];rfl)|(refine(jS hg4).cell0 (by first|omega|(simp;omega)|(simp;done)) (NOX.out _ (by first|omega|(simp;omega)|(simp;done))) ?_;(try simp only[fP]);first|(rw[aZ _ _ _ _ (by first|omega|(simp;omega)|(simp;done))];rfl)|(rw[eD _ _ _ (by first|omega|(simp;omega)|(simp;done))];rw[aZ _ _ _ _ (by first|omega|(simp;omega)|(simp;done))];rfl))) (by intro x hx;simp at hx;subst hx;rfl) (by rw[HLU.out];simp;omega) (by have:=SZ.out _ (show Keep [] w3 _ from(by repeat(first|exact Keep.refl _ _|refine Keep.alloc ?_ _|refine Keep.drew ?_)));have:=hg4.size;have:=(show Keep [] w4 _ from(by repeat(first|exact Keep.refl _ _|refine Keep.alloc ?_ _|refine Keep.drew ?_))).size;simp at*;omega) ?_;intro qo' ko' w6 hown6 hg6 ho6;rw[E6.out] at hown6 ho6 ⊢;have X6:=Z6.out _ w4 _ w6 (by repeat(first|exact Keep.refl _ _|refine Keep.alloc ?_ _|refine Keep.drew ?_)) hg4 (by repeat(first|exact Keep.refl _ _|refine Keep.alloc ?_ _|refine Keep.drew ?_)) hg6;have s5:=X6.gC 5;have s6:=X6.gC 6;have f5:=X6.f 5 sI;have f6:=X6.f 6 sI;have sl:=X6.lt;clear X6))
   all_goals
    have NX:=yB.next HR.out KW hb2 hb3 HBU.out hxr g1 g2 g3 HDD.out hg HOD.out hgc hgm HX1.out HL1.out (kep (Keep.refl _ _)) hg4 ho4 jV (kep (Keep.refl _ _)) hg6 ho6 hown6 rfl;clear v6 vl s5 s6 f5 f6 sl jV hown6 ho4 ho6 hg4 hg6;have HNX:=ah NX;clear NX;go_wp2;go_roundw;case rel=>exact⟨i+1,qn',qo',kn',ko',_,_,_,om,by go_num,HNX.out⟩
    case measure=>simp[intOf];omega
  ·have ei:i=n:=by omega
   subst ei;have Z:=ST.out.z;have a0:=Z.gC 0;have a1:=Z.gC 1;have f0:=Z.f 0 sI;have f1:=Z.f 1 sI;have al:=Z.lt;have FI:=ah (yB.fin HR.out ⟨c6,c7,c8,hhi⟩ C4'.out);clear Z;have hmap:L.map (·.n)=P:=by rw[HR.out.2.1,HN.out,bU]
   have KW2:Below w.heap.size w wr:=K1.trans (hbel.mono z1);have HM:=ah hmap;clear hmap;go_wp2;go_ret2
   exact⟨w1.heap.size,O,L,rfl,FI.out,om,HM.out,HR.out.2.2.1,fun j l D hl hD=>by rw[←HN.out];exact HR.out.2.2.2.1 j l D hl hD,jK⟩
end Go.Proofs.YtehhldljdakgeaaGreatDoor
