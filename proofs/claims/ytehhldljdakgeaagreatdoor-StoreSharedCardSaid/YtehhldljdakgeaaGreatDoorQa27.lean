/- Lemmas and contracts for the claim's last text: RZFrom. -/
import Derived.Test.YtehhldljdakgeaaGreatDoorQa01
import Derived.Test.YtehhldljdakgeaaGreatDoorQa08
set_option linter.unusedSimpArgs false
set_option linter.unusedVariables false
set_option maxHeartbeats 16000000
set_option maxRecDepth 100000
namespace Go.Proofs.YtehhldljdakgeaaGreatDoor
open Go.RowKit Go.Maps
attribute [local go_sem ↓] aJ aK
theorem xD {l:List Int} {x y:Int} (h:lexL l x y) (k:lexL l y x):False:=by
 unfold lexL at h k;omega
theorem Gb {l:List Int}: ∀{S D:List Int},S.Pairwise (lexL l)→D.Pairwise (lexL l)→(∀x,x∈S↔x∈D)→S=D
 |[],[],_,_,_=>rfl
 |[],b::D,_,_,h=>by have:=(h b).2 sI;cases this
 |a::S,[],_,_,h=>by have:=(h a).1 sI;cases this
 |a::S,b::D,hS,hD,h=>by
  obtain⟨s1,s2⟩:=bM.1 hS;obtain⟨d1,d2⟩:=bM.1 hD;have e:a=b:=by
   rcases aB.1 ((h a).1 sI) with q|q
   ·exact q
   ·rcases aB.1 ((h b).2 sI) with r|r
    ·exact r.symm
    ·exact(xD (d1 a q) (s1 b r)).elim
  subst e;rw[Gb s2 d2 (fun x=> ?_)];constructor
  ·intro q
   rcases aB.1 ((h x).1 (ak _ q)) with r|r
   ·subst r;exact(xD (s1 x q) (s1 x q)).elim
   ·exact r
  ·intro q
   rcases aB.1 ((h x).2 (ak _ q)) with r|r
   ·subst r;exact(xD (d1 x q) (d1 x q)).elim
   ·exact r
structure NF (l:List Int) (n:Nat) (far:Int) (i:Nat) (S:List Int):Prop where
 pw:S.Pairwise (lexL l)
 mem: ∀x:Int,x∈S↔(0≤x∧x<n)∧(sP l x<far∨(sP l x=far∧x<i))
theorem NF.start {l:List Int} {n:Nat} (h: ∀x:Int,0≤x→x<n→0≤sP l x):NF l n 0 0 []:=
 ⟨List.Pairwise.nil,fun x=>by simp;intro a b;have:=h x a b;omega⟩
theorem NF.hit {l:List Int} {n:Nat} {far:Int} {i:Nat} {S:List Int} (h:NF l n far i S) (hi:i<n) (hk:sP l i=far):NF l n far (i+1) (S++[(i:Int)]):=by
 refine⟨dM.2 ⟨h.pw,sI,fun a ha b hb=> ?_⟩,fun x=> ?_⟩
 ·simp at hb;subst hb
  have:=(h.mem a).1 ha;unfold lexL;omega
 ·rw[aD,h.mem x]
  simp;constructor
  ·rintro(⟨a,b|b⟩|rfl)
   ·exact⟨a,.inl b⟩
   ·exact⟨a,.inr ⟨b.1,om⟩⟩
   ·exact⟨⟨om,om⟩,.inr ⟨hk,om⟩⟩
  ·rintro⟨a,b|b⟩
   ·exact .inl ⟨a,.inl b⟩
   ·by_cases e:x=i
    ·exact .inr e
    ·exact .inl ⟨a,.inr ⟨b.1,om⟩⟩
theorem NF.miss {l:List Int} {n:Nat} {far:Int} {i:Nat} {S:List Int} (h:NF l n far i S) (hk:sP l i≠far):NF l n far (i+1) S:=by
 refine⟨h.pw,fun x=> ?_⟩;rw[h.mem x];constructor
 ·rintro⟨a,b|b⟩
  ·exact⟨a,.inl b⟩
  ·exact⟨a,.inr ⟨b.1,om⟩⟩
 ·rintro⟨a,b|b⟩
  ·exact⟨a,.inl b⟩
  ·refine⟨a,.inr ⟨b.1,?_⟩⟩
   by_cases e:x=i
   ·subst e;exact absurd b.1 hk
   ·omega
theorem NF.next {l:List Int} {n:Nat} {far:Int} {S:List Int} (h:NF l n far n S):NF l n (far+1) 0 S:=by
 refine⟨h.pw,fun x=> ?_⟩;rw[h.mem x];constructor
 ·rintro⟨a,b|b⟩
  ·exact⟨a,.inl om⟩
  ·exact⟨a,.inl om⟩
 ·rintro⟨a,b|b⟩
  ·refine⟨a,?_⟩
   by_cases e:sP l x<far
   ·exact .inl e
   ·exact .inr ⟨om,a.2⟩
  ·omega
theorem yc: ∀(n:Nat) (S:List Int),S.Nodup→(∀x∈S,0≤x∧x<n)→S.length≤n
 |0,S,_,h=>by
  cases S with
  |nil=>simp
  |cons a S=>have:=h a sI;omega
 |n+1,S,hn,h=>by
  by_cases e:(n:Int)∈S
  ·have l1:=iX e
   have:=yc n (S.erase (n:Int)) (hn.erase _) (fun x hx=>by
    have hm:=(List.Nodup.mem_erase_iff hn).1 hx;have:=h x hm.2;have hne:=hm.1;omega)
   omega
  ·have:=yc n S hn (fun x hx=>by
    have q:=h x hx;have hne:x≠n:=fun r=>e (r▸hx)
    omega)
   omega
theorem NF.len {l:List Int} {n:Nat} {far:Int} {i:Nat} {S:List Int} (h:NF l n far i S):S.length≤n:=
 yc n S (h.pw.imp (fun {a b} q e=>by subst e;exact xD q q)) (fun x hx=>((h.mem x).1 hx).1)
def Ot (D:List Int) (w:World) (e:Ending) (w':World):Prop:=
 ∃q k,e= .returned (.slice q D.length k)∧w'.ownsRow w.heap.size 3 1 (.slice q D.length k) D.length (ints D)∧Below w.heap.size w w'
theorem Gc (vP vN:Value) (P:List Int) (N:List (List Int)) (mn lw hi:Int) (v:Nat) (l D:List Int) (w:World) (h:Cfg [] w vP vN P N) (hv:N[v]?=some l) (hl:l.length=P.length) (hN:N.length=P.length) (hp:P.length≤4) (hr: ∀x∈l,0≤x∧x≤1000) (hD:rV l P.length D):
 Calls Tryz.prog 93 #[.agg #[vP,vN,.int .i64 mn,.int .i64 lw,.int .i64 hi],.int .i64 v] w (Ot D w):=by
 have hvn:v<P.length:=by rw[←hN];exact(au.1 hv).1
 obtain⟨p,cap,rfl,hcp,hmx,_⟩:=h.p.int;obtain⟨q,k,rfl,hck,hkm,hcn⟩:=h.n.form;have hcn:=ah hcn;obtain⟨gN,oN,u,rfl,_,hgN,hcu,hu⟩:=hcn.out v l hv;obtain⟨pl,kl,rfl,hkl,hml,hcl⟩:=hu.int;obtain⟨gl,ol,rfl,_,hgl,hd0⟩:=hcl 0 _ (aA om);clear hd0;have HR:Hid (∀j,j<P.length→w.cell? ⟨gl,ol+j,none⟩=some (.int .i64 (sP l j))):=fun j hj=>by
  obtain⟨g2,o2,e,_,_,hc2⟩:=hcl j _ (aA om);injection e with e;injection e with e1 e2;subst e1 e2;unfold sP;rw[bQ,eu,aA (show j<l.length by omega)];exact hc2
 have hkey: ∀x:Int,0≤x→x<P.length→0≤sP l x∧sP l x≤1000:=fun x a b=>by
  have hx:x.toNat<l.length:=om;unfold sP;rw[eu,aA hx];exact hr _ (List.getElem_mem hx)
 have HK:=ah hkey;have HF0:=ah (NF.start (l:=l) (n:=P.length) (fun x a b=>(hkey x a b).1));have L0:=ah (jD.mk_ w [.slice p P.length cap,.slice (some ⟨gN,oN,none⟩) N.length k,.int .i64 mn,.int .i64 lw,.int .i64 hi] 98 rfl);have HCU:=ah hcu;have HOD:=ah hD;have HN:=ah hN;obtain⟨n,hn⟩:=eY P.length;rw[hN] at hck L0 ⊢;rw[←hn] at hcp hck hp hvn L0 HR HK HF0 HOD HN ⊢;have HCUl:l.length=n:=by rw[hn];exact hl
 rw[HCUl] at HCU;have v0:(0:Int)≤(v:Int):=om;have v1:(v:Int)<(n:Int):=om;have hb0:Below w.heap.size w (w.alloc (.cells [.slice p n cap,.slice (some ⟨gN,oN,none⟩) n k,.int .i64 mn,.int .i64 lw,.int .i64 hi].toArray 98)):=jK;have HB0:=ah hb0;unfold maxLen at hmx hkm hml;clear h hv hl hN hr hD hcu hu hcl hkey hn hb0 hcn HCUl;go_enter Tryz.func93,Tryz.ntmps93;go_wp2_with fail;go_loopw [5,6] (fun ov fv wr=>∃(far:Nat) (q:Option Addr) (kq m:Nat) (S:List Int),far≤1001∧fv= .int .i64 far∧ov= .slice q m kq∧m≤n∧Hid (S.length=m)∧Hid (NF l n far 0 S)∧Hid (wr.ownsRow (w.heap.size+1) 3 1 (.slice q m kq) m (ints S))∧Hid (jD wr w.heap.size [.slice p n cap,.slice (some ⟨gN,oN,none⟩) n k,.int .i64 mn,.int .i64 lw,.int .i64 hi])∧Below w.heap.size w wr∧w.heap.size<wr.heap.size) (fun _ fv _=>1001-(intOf fv).toNat);case atStart=>exact⟨0,none,0,0,[],om,by go_num,rfl,om,(show([]:List Int).length=0 from rfl),HF0,aT _ _ _ _,L0,HB0.out,sI⟩
 case round=>
  obtain⟨far,q,kq,m,S,hfar,rfl,rfl,hmn,HSm,HNF,HOW,HL,hbel,hlt0⟩:=hrel;by_cases hf:far≤1000
  ·obtain⟨wo,rfl⟩: ∃wo:World,wo=wr:=⟨_,rfl⟩
   clear L0 HB0;have hfd:decide ((far:Int)≤1000)=true:=decide_eq_true om;go_wp2_with fail;go_loopw [5,7] (fun ov iv wr=>∃(i:Nat) (q:Option Addr) (kq m:Nat) (S:List Int),i≤n∧iv= .int .i64 i∧ov= .slice q m kq∧m≤n∧Hid (S.length=m)∧Hid (NF l n far i S)∧Hid (wr.ownsRow (w.heap.size+1) 3 1 (.slice q m kq) m (ints S))∧Hid (jD wr w.heap.size [.slice p n cap,.slice (some ⟨gN,oN,none⟩) n k,.int .i64 mn,.int .i64 lw,.int .i64 hi])∧Below w.heap.size w wr∧w.heap.size<wr.heap.size) (fun _ iv _=>n-(intOf iv).toNat);case atStart=>exact⟨0,q,kq,m,S,om,by go_num,rfl,hmn,HSm,HNF,HOW,HL,hbel,hlt0⟩
   case round=>
    obtain⟨i,q2,kq2,m2,S2,hile,rfl,rfl,hmn2,HSm2,HNF2,HOW2,HL2,UG,hlt2⟩:=hrel;have a0:=HL2.out.gC 0;have a1:=HL2.out.gC 1;have al:=HL2.out.lt;clear HSm HNF HOW HL hbel hlt0;by_cases hin:i<n
    ·have c0:=(UG.cell (p:=⟨gN,oN+v,none⟩) hgN).trans HCU.out
     obtain⟨ki,hki⟩:=eY (sP l (i:Int));have c1:=(UG.cell (p:=⟨gl,ol+i,none⟩) hgl).trans (HR.out i hin);rw[←hki] at c1;have HKI:=ah hki;have z0:gN<wr.heap.size:=om;have z1:gl<wr.heap.size:=om;have i0:(0:Int)≤(i:Int):=om;have i1:(i:Int)<(n:Int):=om;clear hki;by_cases hk:ki=(far:Int)
     ·have hb:(ki==(far:Int))=true:=by simp[hk]
      have HN2:=ah (HNF2.out.hit hin (by rw[←HKI.out];exact hk));have hlen2:=HN2.out.len;have hil:(ints S2).length=m2:=by rw[kW];exact HSm2.out
      have OW2:Hid (∀o,(wr.alloc o).ownsRow (w.heap.size+1) 3 1 (.slice q2 m2 kq2) (ints S2).length (ints S2)):=fun o=>by rw[hil];exact HOW2.out.alloc o
      have HIL:=ah hil;have hm1:m2+1≤n:=by have:=HSm2.out;simp at hlen2;omega
      have hS1:Hid ((S2++[(i:Int)]).length=m2+1):=by show _=_;have:=HSm2.out;simp;omega
      clear hil hk hlen2;go_wp2_with (first|(at_builtin;refine qj (base:=w.heap.size+1) (v:=.slice q2 m2 kq2) (us:=ints S2) (ms:=[.int .i64 i]) (p:=some ⟨wr.heap.size,0,none⟩) Qy rfl (.tmp 29) (.tmp 31) rf rf 1 rf rfl (OW2.out _) (sO _ _ _) (by intro x hx;simp at hx;subst hx;rfl) (by rw[HIL.out];simp;omega) (by simp;omega) ?_;intro qb kb w4 jV hg4 ho4));have e4:ints S2++[Value.int .i64 i]=ints (S2++[(i:Int)]):=by simp[ints]
      have l4:(ints (S2++[(i:Int)])).length=m2+1:=by rw[kW];exact hS1.out
      rw[e4,l4] at jV;have OW4:=ah jV;have hb4:Below w.heap.size w w4:=(UG.alloc om _).grown hg4 (by simp;omega) (fun r hr=>by have:=((OW2.out (.cells #[.int .i64 i] 3)).lt r hr).1;omega);have LI:Hid ((ints S2).length+1=m2+1):=by have:=HIL.out;show _=_;omega
      have HL4:Hid (jD w4 w.heap.size [.slice p n cap,.slice (some ⟨gN,oN,none⟩) n k,.int .i64 mn,.int .i64 lw,.int .i64 hi]):=(HL2.out.past (.cells #[.int .i64 i] 3)).keep (jS hg4) (fun hq=>by have:=jP (OW2.out (.cells #[.int .i64 i] 3)) hq;omega);have z4:=hg4.size;simp at z4;clear jV hg4 ho4 OW2 e4 l4;simp only[HIL.out];go_wp2;go_roundw;case rel=>exact⟨i+1,qb,kb,m2+1,S2++[(i:Int)],om,by go_num,rfl,hm1,hS1,HN2,OW4,HL4,hb4,om⟩
      case measure=>simp[intOf];omega
     ·have hb:(ki==(far:Int))=false:=by simp[hk]
      have HN2:=ah (HNF2.out.miss (by rw[←HKI.out];exact hk));clear hk;go_wp2;go_roundw;case rel=>exact⟨i+1,q2,kq2,m2,S2,om,by go_num,rfl,hmn2,HSm2,HN2,HOW2,HL2,UG,hlt2⟩
      case measure=>simp[intOf];omega
    ·obtain rfl:i=n:=by omega
     have HN2:=ah HNF2.out.next;go_wp2;go_roundw;case rel=>exact⟨far+1,q2,kq2,m2,S2,om,by go_num,rfl,hmn2,HSm2,HN2,HOW2,HL2,UG,hlt2⟩
     case measure=>simp[intOf];omega
  ·obtain rfl:far=1001:=by omega
   have hfd:decide (((1001:Nat):Int)≤1000)=false:=by decide
   have hSD:S=D:=Gb HNF.out.pw HOD.out.pw (fun x=>by
    rw[HNF.out.mem x,HOD.out.mem x];constructor
    ·exact fun q=>q.1
    ·intro q
     have:=HK.out x q.1 q.2;exact⟨q,.inl om⟩)
   subst hSD;have hm:S.length=m:=HSm.out;have HM:=ah hm;clear hm hf;go_wp2;go_ret;refine⟨q,kq,(by show Ending.returned (.slice q m kq)=_;rw[HM.out]),?_,hbel⟩;rw[HM.out];exact rA HOW.out om
theorem uj {α:Type} {p:α→Bool} {xs:List α} {j:Nat} {x:α} (h:xs[j]?=some x) (hp:(xs.take j).any p=false) (hx:p x=false):(xs.take (j+1)).any p=false:=by rw[rD h,hp,hx];rfl
theorem rP {α:Type} {p:α→Bool} {xs:List α} {j:Nat} {x:α} (h:xs[j]?=some x) (hx:p x=true):xs.any p=true:=fC.2 ⟨x,aF h,hx⟩
theorem xE {P:List Int} {N:List (List Int)} {mn lw hi:Int} (h:yU P N mn lw hi=false):tJ P N mn lw hi=2:=by unfold tJ;rw[if_pos h]
theorem Gd {P:List Int} {N:List (List Int)} {mn lw hi:Int} (h:P.any wX=true):tJ P N mn lw hi=2:=xE (by unfold yU;rw[h];simp)
theorem UH {P:List Int} {N:List (List Int)} {mn lw hi:Int} (h:N.any uQ=true):tJ P N mn lw hi=2:=xE (by unfold yU;rw[h];simp)
theorem Ar {P:List Int} {N:List (List Int)} {mn lw hi:Int} (h:qX mn lw hi=false):tJ P N mn lw hi=2:=xE (by unfold yU;rw[h];simp)
theorem bnd_yes {P:List Int} {N:List (List Int)} {mn lw hi:Int} (h1:1≤P.length) (h2:P.length≤4) (h3:P.any wX=false) (h4:N.any uQ=false) (h5:qX mn lw hi=true):tJ P N mn lw hi=if sqC P N&& !Hq N then 0 else 3:=by
 unfold tJ;have:yU P N mn lw hi=true:=by unfold yU;rw[decide_eq_true h1,decide_eq_true h2,h3,h4,h5];rfl
 rw[if_neg (by rw[this];simp)]
theorem D8 (X:List Nat) (vP vN:Value) (P:List Int) (N:List (List Int)) (mn lw hi:Int) (w:World) (h:Cfg X w vP vN P N):
 Calls Tryz.prog 43 #[.agg #[vP,vN,.int .i64 mn,.int .i64 lw,.int .i64 hi]] w fun e w'=>e= .returned (.int .i64 ((tJ P N mn lw hi:Nat):Int))∧Below w.heap.size w w':=by
 obtain⟨p,cap,rfl,hcp,hmx,hP⟩:=h.p.int;obtain⟨q,k,rfl,hck,hkm,hN⟩:=h.n.form;have HP:=ah hP;have HN:=ah hN;unfold maxLen at hmx hkm;clear hP hN h;by_cases hp:P.length<1∨4<P.length
 ·have e:tJ P N mn lw hi=2:=xE (by unfold yU;rcases hp with q|q;(·rw[decide_eq_false (show¬1≤P.length by omega)];simp);(·rw[decide_eq_false (show¬P.length≤4 by omega)];simp))
  have E:=ah e;rw[e];clear e;rcases hp with hp|hp
  ·obtain hp:P.length=0:=by omega
   rw[hp] at hcp ⊢;clear hp;go_enter Tryz.func43,Tryz.ntmps43;go_wp2;go_ret;exact⟨rfl,jK⟩
  ·go_enter Tryz.func43,Tryz.ntmps43
   go_wp2;go_ret;exact⟨rfl,jK⟩
 have hp1:1≤P.length:=om;have hp4:P.length≤4:=om;clear hp;obtain⟨n,hn⟩:=eY P.length;obtain⟨m,hm⟩:=eY N.length;have EN:=ah hn;have EM:=ah hm;rw[←hn] at hp1 hp4 hcp ⊢;rw[←hm] at hck ⊢;have L0:=ah (jD.mk_ w [.slice p n cap,.slice q m k,.int .i64 mn,.int .i64 lw,.int .i64 hi] 98 rfl);have HB0:=ah (show Below w.heap.size w (w.alloc (.cells [.slice p n cap,.slice q m k,.int .i64 mn,.int .i64 lw,.int .i64 hi].toArray 98)) from jK);obtain⟨s0,hs0⟩: ∃s0:Bool,((m:Int)==(n:Int))=s0:=⟨_,rfl⟩;have HS0:Hid (s0=decide (N.length=P.length)):=by
  show _=_;rw[←hs0,hn,hm];by_cases e:N.length=P.length
  ·rw[decide_eq_true e,e];simp
  ·rw[decide_eq_false e];simp;omega
 clear hn hm;go_enter Tryz.func43,Tryz.ntmps43;go_wp2_with fail;go_loopw [4] (fun iv wr=>∃i:Nat,i≤n∧iv= .int .i64 i∧Hid ((P.take i).any wX=false)∧wr=(w.alloc (.cells [.slice p n cap,.slice q m k,.int .i64 mn,.int .i64 lw,.int .i64 hi].toArray 98))) (fun iv _=>n-(intOf iv).toNat);case atStart=>exact⟨0,bq _,by go_num,(show _=_ by simp),rfl⟩
 case round=>
  obtain⟨i,hi',rfl,HA,rfl⟩:=hrel;by_cases hin:i<n
  ·obtain⟨x,hx⟩: ∃x,P[i]?=some x:=⟨P[i]'(by rw[←EN.out];exact hin),aA _⟩
   obtain⟨g,off,rfl,_,hg,hc⟩:=HP.out i x hx;have r1:=(HB0.out.cell (p:=⟨g,off+i,none⟩) hg).trans hc;have i0:(0:Int)≤(i:Int):=om;have i1:(i:Int)<(n:Int):=om;have gr:g<(w.alloc (.cells [.slice (some ⟨g,off,none⟩) n cap,.slice q m k,.int .i64 mn,.int .i64 lw,.int .i64 hi].toArray 98)).heap.size:=by simp;omega
   have HX:=ah hx;clear hx hc;by_cases hb:x<1
   ·have d1:decide (x<1)=true:=decide_eq_true hb
    have E:Hid (tJ P N mn lw hi=2):=Gd (rP HX.out (by unfold wX;simp;omega));clear hb;go_wp2;go_ret;exact⟨by rw[E.out];rfl,HB0.out⟩
   have d1:decide (x<1)=false:=decide_eq_false hb;by_cases hb2:256<x
   ·have d2:decide (256<x)=true:=decide_eq_true hb2
    have E:Hid (tJ P N mn lw hi=2):=Gd (rP HX.out (by unfold wX;simp;omega));clear hb hb2;go_wp2;go_ret;exact⟨by rw[E.out];rfl,HB0.out⟩
   have d2:decide (256<x)=false:=decide_eq_false hb2;have NX:Hid ((P.take (i+1)).any wX=false):=uj HX.out HA.out (by unfold wX;simp;omega);clear hb hb2;go_wp2;go_roundw;case rel=>exact⟨i+1,om,by go_num,NX,trivial⟩
   case measure=>simp[intOf];omega
  ·have HA1:Hid (P.any wX=false):=by
    show _=_;have:=HA.out;rwa [show i=P.length by have:=EN.out;omega,bU] at this
   obtain rfl:i=n:=om;have K0:=L0.out;clear hin HA;have k0:=K0.gC 0;have k1:=K0.gC 1;have k2:=K0.gC 2;have k3:=K0.gC 3;have k4:=K0.gC 4;clear K0;go_wp2_with fail;go_loopw [5,6] (fun sv iv wr=>∃(j:Nat) (s:Bool),j≤m∧iv= .int .i64 j∧sv= .bool s∧Hid ((N.take j).any uQ=false)∧Hid (s=(s0&& !(N.take j).any (qm i)))∧wr=(w.alloc (.cells [.slice p i cap,.slice q m k,.int .i64 mn,.int .i64 lw,.int .i64 hi].toArray 98))) (fun _ iv _=>m-(intOf iv).toNat);case atStart=>exact⟨0,s0,bq _,by go_num,rfl,(show _=_ by simp),(show _=_ by simp),rfl⟩
   case round=>
    obtain⟨j,s,hj',rfl,rfl,HF,HS,rfl⟩:=hrel;by_cases hjm:j<m
    ·obtain⟨l,hl⟩: ∃l,N[j]?=some l:=⟨N[j]'(by rw[←EM.out];exact hjm),aA _⟩
     obtain⟨g,off,u,rfl,_,hg,hc,hu⟩:=HN.out j l hl;obtain⟨pl,kl,rfl,hkl,hml,hcl⟩:=hu.int;have r1:=(HB0.out.cell (p:=⟨g,off+j,none⟩) hg).trans hc;have j0:(0:Int)≤(j:Int):=om;have j1:(j:Int)<(m:Int):=om;have gr:g<(w.alloc (.cells [.slice p i cap,.slice (some ⟨g,off,none⟩) m k,.int .i64 mn,.int .i64 lw,.int .i64 hi].toArray 98)).heap.size:=by simp;omega
     have HL:=ah hl;have HCL:=ah hcl;unfold maxLen at hml;clear hl hu hc hcl;obtain⟨c,hc⟩:=eY l.length;have EC:=ah hc;rw[←hc] at r1 hkl;clear hc;go_wp2_with fail;go_loopw [7] (fun iv wr=>∃t:Nat,t≤c∧iv= .int .i64 t∧Hid ((l.take t).any qD=false)∧wr=(w.alloc (.cells [.slice p i cap,.slice (some ⟨g,off,none⟩) m k,.int .i64 mn,.int .i64 lw,.int .i64 hi].toArray 98))) (fun iv _=>c-(intOf iv).toNat);case atStart=>exact⟨0,bq _,by go_num,(show _=_ by simp),rfl⟩
     case round=>
      obtain⟨t,ht',rfl,HT,rfl⟩:=hrel;by_cases htc:t<c
      ·obtain⟨x,hx⟩: ∃x,l[t]?=some x:=⟨l[t]'(by rw[←EC.out];exact htc),aA _⟩
       obtain⟨g2,off2,rfl,_,hg2,hc2⟩:=HCL.out t x hx;have r2:=(HB0.out.cell (p:=⟨g2,off2+t,none⟩) hg2).trans hc2;have t0:(0:Int)≤(t:Int):=om;have t1:(t:Int)<(c:Int):=om;have HX:=ah hx;clear hx hc2;by_cases hb:x<0
       ·have d1:decide (x<0)=true:=decide_eq_true hb
        have E:Hid (tJ P N mn lw hi=2):=UH (rP HL.out (rP HX.out (by unfold qD;simp;omega)));clear hb;go_wp2;go_ret;exact⟨by rw[E.out];rfl,HB0.out⟩
       have d1:decide (x<0)=false:=decide_eq_false hb;by_cases hb2:1000<x
       ·have d2:decide (1000<x)=true:=decide_eq_true hb2
        have E:Hid (tJ P N mn lw hi=2):=UH (rP HL.out (rP HX.out (by unfold qD;simp;omega)));clear hb hb2;go_wp2;go_ret;exact⟨by rw[E.out];rfl,HB0.out⟩
       have d2:decide (1000<x)=false:=decide_eq_false hb2;have NX:Hid ((l.take (t+1)).any qD=false):=uj HX.out HT.out (by unfold qD;simp;omega);clear hb hb2;go_wp2;go_roundw;case rel=>exact⟨t+1,om,by go_num,NX,trivial⟩
       case measure=>simp[intOf];omega
      ·have hlf:uQ l=false:=by
        have:=HT.out;rw[show t=l.length by have:=EC.out;omega,bU] at this;exact this
       have NF2:Hid ((N.take (j+1)).any uQ=false):=uj HL.out HF.out hlf;obtain rfl:t=c:=om;clear htc HT hlf;by_cases hln:t=i
       ·have d1:((t:Int) !=(i:Int))=false:=bne_eq_false_iff_eq.2 om
        have hle:qm i l=false:=by unfold qm;rw[←EC.out,hln];simp
        have NS:Hid (s=(s0&& !(N.take (j+1)).any (qm i))):=by show _=_;rw[rD HL.out,hle,Bool.or_false];exact HS.out
        clear hln hle;go_wp2;go_roundw;case rel=>exact⟨j+1,s,om,by go_num,rfl,NF2,NS,trivial⟩
        case measure=>simp[intOf];omega
       ·have d1:((t:Int) !=(i:Int))=true:=bne_iff_ne.2 om
        have hle:qm i l=true:=by unfold qm;rw[←EC.out];simp;omega
        have NS:Hid (false=(s0&& !(N.take (j+1)).any (qm i))):=by show _=_;rw[rD HL.out,hle];simp
        clear hln hle;go_wp2;go_roundw;case rel=>exact⟨j+1,false,om,by go_num,rfl,NF2,NS,trivial⟩
        case measure=>simp[intOf];omega
    ·have HF1:Hid (N.any uQ=false):=by
      show _=_;have:=HF.out;rwa [show j=N.length by have:=EM.out;omega,bU] at this
     have HS1:Hid (s=sqC P N):=by
      show _=_;have:=HS.out;rw[show j=N.length by have:=EM.out;omega,bU,HS0.out,EN.out] at this;exact this
     obtain rfl:j=m:=om;clear hjm HF HS;by_cases hm0:mn<0
     ·have d1:decide (mn<0)=true:=decide_eq_true hm0
      have E:Hid (tJ P N mn lw hi=2):=Ar (by unfold qX;rw[decide_eq_false (show¬0≤mn by omega)];rfl);clear hm0;go_wp2;go_ret;exact⟨by rw[E.out];rfl,HB0.out⟩
     have d1:decide (mn<0)=false:=decide_eq_false hm0;by_cases hm1:lw<mn
     ·have d2:decide (lw<mn)=true:=decide_eq_true hm1
      have E:Hid (tJ P N mn lw hi=2):=Ar (by unfold qX;rw[decide_eq_false (show¬mn≤lw by omega)];simp);clear hm0 hm1;go_wp2;go_ret;exact⟨by rw[E.out];rfl,HB0.out⟩
     have d2:decide (lw<mn)=false:=decide_eq_false hm1;by_cases hm2:hi<lw
     ·have d3:decide (hi<lw)=true:=decide_eq_true hm2
      have E:Hid (tJ P N mn lw hi=2):=Ar (by unfold qX;rw[decide_eq_false (show¬lw≤hi by omega)];simp);clear hm0 hm1 hm2;go_wp2;go_ret;exact⟨by rw[E.out];rfl,HB0.out⟩
     have d3:decide (hi<lw)=false:=decide_eq_false hm2;have E:Hid (tJ P N mn lw hi=if sqC P N&& !Hq N then 0 else 3):=bnd_yes (by rw[←EN.out];exact hp1) (by rw[←EN.out];exact hp4) HA1.out HF1.out (by unfold qX;simp;omega);clear hm0 hm1 hm2;cases s with
     |false=>
      have E3:Hid (tJ P N mn lw hi=3):=by show _=_;rw[E.out,←HS1.out];rfl
      go_wp2;go_ret;exact⟨by rw[E3.out];rfl,HB0.out⟩
     |true=>
      have E3:Hid (tJ P N mn lw hi=if !Hq N then 0 else 3):=by show _=_;rw[E.out,←HS1.out];rfl
      have hsq:Hid (N.length=P.length∧∀(j:Nat) (l:List Int),N[j]?=some l→l.length=P.length):=by
       have:=HS1.out.symm;unfold sqC at this;rw[bV] at this;refine⟨of_decide_eq_true this.1,fun j l hj=> ?_⟩;have h2:(N.any (qm P.length))=false:=by simpa using this.2
       have h3:=iA.1 h2 l (aF hj);unfold qm at h3;simp at h3;omega
      obtain rfl:j=i:=by have:=hsq.out.1;have:=EN.out;have:=EM.out;omega
      clear k0 HS1 E;go_wp2_with fail;trace_state
      go_loopw [8] (fun iv wr=>∃t:Nat,t≤j∧iv= .int .i64 t∧Hid ((List.range t).any (yK N)=false)∧Hid (jD wr w.heap.size [.slice p j cap,.slice q j k,.int .i64 mn,.int .i64 lw,.int .i64 hi])∧Below w.heap.size w wr) (fun iv _=>j-(intOf iv).toNat);case atStart=>exact⟨0,bq _,by go_num,(show _=_ by simp),L0,HB0.out⟩
      case round=>
       obtain⟨t,ht',rfl,HT,HLr,hbel⟩:=hrel;clear k1;by_cases htj:t<j
       ·obtain⟨wo,rfl⟩: ∃wo:World,wo=wr:=⟨_,rfl⟩
        obtain⟨l,hl⟩: ∃l,N[t]?=some l:=⟨N[t]'(by rw[←EM.out];exact htj),aA _⟩;obtain⟨g,off,u,rfl,_,hg,hc,hu⟩:=HN.out t l hl;obtain⟨pl,kl,rfl,hkl,hml,hcl⟩:=hu.int;have hll:=hsq.out.2 t l hl;rw[←EN.out] at hll;have hsn:=vM (yK N) t;rw[HT.out,fM] at hsn;have hbr:yK N t=F8 t l:=by unfold yK;rw[xX hl]
        rw[hbr] at hsn;have SN:=ah hsn;have BR:=ah hbr;have t0:(0:Int)≤(t:Int):=om;have t1:(t:Int)<(j:Int):=om;rw[hll] at hkl hc;have HCC:=ah hc;have HCL:=ah hcl;have HLL:=ah hll;obtain⟨vt,hvt⟩: ∃x,l[t]?=some x:=⟨l[t]'(by rw[hll];exact htj),aA _⟩;obtain⟨g2,off2,rfl,_,hg2,hct⟩:=HCL.out t vt hvt;have HVT:=ah (xX (d:=(0:Int)) hvt);have HCT:=ah hct;unfold maxLen at hml;clear hl hu hc hcl hll hsn hbr hct hvt;go_wp2_with fail;go_loopw [9] (fun iv wr=>∃b:Nat,b≤j∧iv= .int .i64 b∧Hid ((List.range b).any (Ny t l)=false)∧Hid (jD wr w.heap.size [.slice p j cap,.slice (some ⟨g,off,none⟩) j k,.int .i64 mn,.int .i64 lw,.int .i64 hi])∧Below w.heap.size w wr) (fun iv _=>j-(intOf iv).toNat);case atStart=>exact⟨0,bq _,by go_num,(show _=_ by simp),HLr,hbel⟩
        case round=>
         obtain⟨b,hb',rfl,HB,HLb,hbl⟩:=hrel;have zb:=hbl.size;by_cases hbj:b<j
         ·have k1:=HLb.out.gC 1;have kl1:=HLb.out.lt
          have r1:=(hbl.cell (p:=⟨g,off+t,none⟩) hg).trans HCC.out;have r2:=(hbl.cell (p:=⟨g2,off2+t,none⟩) hg2).trans HCT.out;obtain⟨vb,hvb⟩: ∃x,l[b]?=some x:=⟨l[b]'(by rw[HLL.out];exact hbj),aA _⟩;obtain⟨g3,off3,e3,_,hg3,hcb⟩:=HCL.out b vb hvb;have e3':g3=g2∧off3=off2:=by injection e3 with e3;injection e3 with a b;exact⟨a.symm,b.symm⟩
          obtain⟨rfl,rfl⟩:=e3';have r3:=(hbl.cell (p:=⟨g3,off3+b,none⟩) hg3).trans hcb;have hsn:=vM (Ny t l) b;rw[HB.out,fM] at hsn;have ebj:Ny t l b=(decide (t≠b)&&decide (vb≤vt)):=by unfold Ny;rw[xX hvb,HVT.out]
          rw[ebj] at hsn;have SJ:=ah hsn;have EBJ:=ah ebj;have b0:(0:Int)≤(b:Int):=om;have b1:(b:Int)<(j:Int):=om;have gr1:g<wr.heap.size:=om;have gr3:g3<wr.heap.size:=om;clear hvb hcb e3 hsn ebj;by_cases etb:t=b
          ·have d1:((t:Int) !=(b:Int))=false:=bne_eq_false_iff_eq.2 om
           have hr:Hid ((List.range (b+1)).any (Ny t l)=false):=by have:=SJ.out;rwa [decide_eq_false (by simpa using etb),Bool.false_and] at this
           clear etb;go_wp2_with fail;go_quiet (fail);go_wp2;go_roundw;case rel=>exact⟨b+1,om,by go_num,hr,HLb.out.drewNL _,below_drewN hbl _⟩
           case measure=>simp[intOf];omega
          ·have d1:((t:Int) !=(b:Int))=true:=bne_iff_ne.2 om
           by_cases hv:vb≤vt
           ·have d2:decide (vb≤vt)=true:=decide_eq_true hv
            have hbad:Hq N=true:=yV (j:=t) (by rw[←EM.out];omega) (BR.out.trans (yV (j:=b) (by rw[HLL.out];exact hbj) (EBJ.out.trans (by simp[etb,hv]))));have E4:Hid (tJ P N mn lw hi=3):=by show _=_;rw[E3.out,hbad];rfl
            clear etb hv hbad;go_wp2_with fail;go_quiet (fail);go_wp2;go_ret;exact⟨by rw[E4.out];rfl,below_drewN hbl _⟩
           ·have d2:decide (vb≤vt)=false:=decide_eq_false hv
            have hr:Hid ((List.range (b+1)).any (Ny t l)=false):=by have:=SJ.out;rwa [d2,Bool.and_false] at this
            clear etb hv;go_wp2_with fail;go_quiet (fail);go_wp2;go_roundw;case rel=>exact⟨b+1,om,by go_num,hr,HLb.out.drewNL _,below_drewN hbl _⟩
            case measure=>simp[intOf];omega
         ·have hrow:F8 t l=false:=by
           have:=HB.out;rw[show b=l.length by have:=HLL.out;omega] at this;exact this
          have NT:Hid ((List.range (t+1)).any (yK N)=false):=by show _=_;rw[SN.out,hrow]
          obtain rfl:b=j:=om;clear hbj hrow HB;go_wp2;go_roundw;case rel=>exact⟨t+1,om,by go_num,NT,HLb,hbl⟩
          case measure=>simp[intOf];omega
       ·have hbad:Hq N=false:=by
         have:=HT.out;rw[show t=N.length by have:=EM.out;omega] at this;exact this
        have E4:Hid (tJ P N mn lw hi=0):=by show _=_;rw[E3.out,hbad];rfl
        obtain rfl:t=j:=om;clear htj hbad HT;go_wp2;go_ret;exact⟨by rw[E4.out];rfl,hbel⟩
end Go.Proofs.YtehhldljdakgeaaGreatDoor
