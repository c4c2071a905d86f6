/- Lemmas. -/
import Derived.Test.YtehhldljdakgeaaGreatDoorQb01
import Derived.Test.YtehhldljdakgeaaGreatDoorQb15
set_option linter.unusedSimpArgs false
set_option linter.unusedVariables false
set_option maxHeartbeats 16000000
set_option maxRecDepth 100000
namespace Go.Proofs.YtehhldljdakgeaaGreatDoor
open Go.RowKit Go.Maps Go.Proofs.Tryz
attribute [local go_sem ↓] aJ aK
theorem yS {l:List Int} {x y:Int} (h:lexL l x y) (k:lexL l y x):False:=by
 unfold lexL at h k;omega
theorem Ij {l:List Int}: ∀{S D:List Int},S.Pairwise (lexL l)→D.Pairwise (lexL l)→(∀x,x∈S↔x∈D)→S=D
 |[],[],_,_,_=>rfl
 |[],b::D,_,_,h=>by have:=(h b).2 sI;cases this
 |a::S,[],_,_,h=>by have:=(h a).1 sI;cases this
 |a::S,b::D,hS,hD,h=>by
  obtain⟨s1,s2⟩:=bN.1 hS;obtain⟨d1,d2⟩:=bN.1 hD;have e:a=b:=by
   rcases aB.1 ((h a).1 sI) with q|q
   ·exact q
   ·rcases aB.1 ((h b).2 sI) with r|r
    ·exact r.symm
    ·exact(yS (d1 a q) (s1 b r)).elim
  subst e;rw[Ij s2 d2 (fun x=> ?_)];constructor
  ·intro q
   rcases aB.1 ((h x).1 (ak _ q)) with r|r
   ·subst r;exact(yS (s1 x q) (s1 x q)).elim
   ·exact r
  ·intro q
   rcases aB.1 ((h x).2 (ak _ q)) with r|r
   ·subst r;exact(yS (d1 x q) (d1 x q)).elim
   ·exact r
structure NF (l:List Int) (n:Nat) (far:Int) (i:Nat) (S:List Int):Prop where
 pw:S.Pairwise (lexL l)
 mem: ∀x:Int,x∈S↔(0≤x∧x<n)∧(uJ l x<far∨(uJ l x=far∧x<i))
theorem NF.start {l:List Int} {n:Nat} (h: ∀x:Int,0≤x→x<n→0≤uJ l x):NF l n 0 0 []:=
 ⟨List.Pairwise.nil,fun x=>by simp;intro a b;have:=h x a b;omega⟩
theorem NF.hit {l:List Int} {n:Nat} {far:Int} {i:Nat} {S:List Int} (h:NF l n far i S) (hi:i<n) (hk:uJ l i=far):NF l n far (i+1) (S++[(i:Int)]):=by
 refine⟨dV.2 ⟨h.pw,sI,fun a ha b hb=> ?_⟩,fun x=> ?_⟩
 ·simp at hb;subst hb
  have:=(h.mem a).1 ha;unfold lexL;omega
 ·rw[aD,h.mem x]
  simp;constructor
  ·rintro(⟨a,b|b⟩|rfl)
   ·exact⟨a,.inl b⟩
   ·exact⟨a,.inr ⟨b.1,om⟩⟩
   ·exact⟨⟨om,om⟩,.inr ⟨hk,om⟩⟩
  ·rintro⟨a,b|b⟩
   ·exact .inl ⟨a,.inl b⟩
   ·by_cases e:x=i
    ·exact .inr e
    ·exact .inl ⟨a,.inr ⟨b.1,om⟩⟩
theorem NF.miss {l:List Int} {n:Nat} {far:Int} {i:Nat} {S:List Int} (h:NF l n far i S) (hk:uJ l i≠far):NF l n far (i+1) S:=by
 refine⟨h.pw,fun x=> ?_⟩;rw[h.mem x];constructor
 ·rintro⟨a,b|b⟩
  ·exact⟨a,.inl b⟩
  ·exact⟨a,.inr ⟨b.1,om⟩⟩
 ·rintro⟨a,b|b⟩
  ·exact⟨a,.inl b⟩
  ·refine⟨a,.inr ⟨b.1,?_⟩⟩
   by_cases e:x=i
   ·subst e;exact absurd b.1 hk
   ·omega
theorem NF.next {l:List Int} {n:Nat} {far:Int} {S:List Int} (h:NF l n far n S):NF l n (far+1) 0 S:=by
 refine⟨h.pw,fun x=> ?_⟩;rw[h.mem x];constructor
 ·rintro⟨a,b|b⟩
  ·exact⟨a,.inl om⟩
  ·exact⟨a,.inl om⟩
 ·rintro⟨a,b|b⟩
  ·refine⟨a,?_⟩
   by_cases e:uJ l x<far
   ·exact .inl e
   ·exact .inr ⟨om,a.2⟩
  ·omega
theorem zM: ∀(n:Nat) (S:List Int),S.Nodup→(∀x∈S,0≤x∧x<n)→S.length≤n
 |0,S,_,h=>by
  cases S with
  |nil=>simp
  |cons a S=>have:=h a sI;omega
 |n+1,S,hn,h=>by
  by_cases e:(n:Int)∈S
  ·have l1:=iC e
   have:=zM n (S.erase (n:Int)) (hn.erase _) (fun x hx=>by
    have hm:=(List.Nodup.mem_erase_iff hn).1 hx;have:=h x hm.2;have hne:=hm.1;omega)
   omega
  ·have:=zM n S hn (fun x hx=>by
    have q:=h x hx;have hne:x≠n:=fun r=>e (r▸hx)
    omega)
   omega
theorem NF.len {l:List Int} {n:Nat} {far:Int} {i:Nat} {S:List Int} (h:NF l n far i S):S.length≤n:=
 zM n S (h.pw.imp (fun {a b} q e=>by subst e;exact yS q q)) (fun x hx=>((h.mem x).1 hx).1)
def Qq (D:List Int) (w:World) (e:Ending) (w':World):Prop:=
 ∃q k,e= .returned (.slice q D.length k)∧w'.ownsRow w.heap.size 3 1 (.slice q D.length k) D.length (ints D)∧Below w.heap.size w w'
theorem Ik (vP vN:Value) (P:List Int) (N:List (List Int)) (mn lw hi:Int) (v:Nat) (l D:List Int) (w:World) (h:Cfg [] w vP vN P N) (hv:N[v]?=some l) (hl:l.length=P.length) (hN:N.length=P.length) (hp:P.length≤4) (hr: ∀x∈l,0≤x∧x≤1000) (hD:ug l P.length D):
 Calls prog 93 #[.agg #[vP,vN,.int .i64 mn,.int .i64 lw,.int .i64 hi],.int .i64 v] w (Qq D w):=by
 have hvn:v<P.length:=by rw[←hN];exact(au.1 hv).1
 obtain⟨p,cap,rfl,hcp,hmx,_⟩:=h.p.int;obtain⟨q,k,rfl,hck,hkm,hcn⟩:=h.n.form;have hcn:=ah hcn;obtain⟨gN,oN,u,rfl,_,hgN,hcu,hu⟩:=hcn.out v l hv;obtain⟨pl,kl,rfl,hkl,hml,hcl⟩:=hu.int;obtain⟨gl,ol,rfl,_,hgl,hd0⟩:=hcl 0 _ (aA om);clear hd0;have HR:Hid (∀j,j<P.length→w.cell? ⟨gl,ol+j,none⟩=some (.int .i64 (uJ l j))):=fun j hj=>by
  obtain⟨g2,o2,e,_,_,hc2⟩:=hcl j _ (aA om);injection e with e;injection e with e1 e2;subst e1 e2;unfold uJ;rw[bS,dQ,aA (show j<l.length by omega)];exact hc2
 have hkey: ∀x:Int,0≤x→x<P.length→0≤uJ l x∧uJ l x≤1000:=fun x a b=>by
  have hx:x.toNat<l.length:=om;unfold uJ;rw[dQ,aA hx];exact hr _ (List.getElem_mem hx)
 have HK:=ah hkey;have HF0:=ah (NF.start (l:=l) (n:=P.length) (fun x a b=>(hkey x a b).1));have L0:=ah (jR.mk_ w [.slice p P.length cap,.slice (some ⟨gN,oN,none⟩) N.length k,.int .i64 mn,.int .i64 lw,.int .i64 hi] 98 rfl);have HCU:=ah hcu;have HOD:=ah hD;have HN:=ah hN;obtain⟨n,hn⟩:=eY P.length;rw[hN] at hck L0 ⊢;rw[←hn] at hcp hck hp hvn L0 HR HK HF0 HOD HN ⊢;have HCUl:l.length=n:=by rw[hn];exact hl
 rw[HCUl] at HCU;have v0:(0:Int)≤(v:Int):=om;have v1:(v:Int)<(n:Int):=om;have hb0:Below w.heap.size w (w.alloc (.cells [.slice p n cap,.slice (some ⟨gN,oN,none⟩) n k,.int .i64 mn,.int .i64 lw,.int .i64 hi].toArray 98)):=jY;have HB0:=ah hb0;unfold maxLen at hmx hkm hml;clear h hv hl hN hr hD hcu hu hcl hkey hn hb0 hcn HCUl;go_in
 go_wp2_with fail;go_loopw [5,6] (fun ov fv wr=>∃(far:Nat) (q:Option Addr) (kq m:Nat) (S:List Int),far≤1001∧fv= .int .i64 far∧ov= .slice q m kq∧m≤n∧Hid (S.length=m)∧Hid (NF l n far 0 S)∧Hid (wr.ownsRow (w.heap.size+1) 3 1 (.slice q m kq) m (ints S))∧Hid (jR wr w.heap.size [.slice p n cap,.slice (some ⟨gN,oN,none⟩) n k,.int .i64 mn,.int .i64 lw,.int .i64 hi])∧Below w.heap.size w wr∧w.heap.size<wr.heap.size) (fun _ fv _=>1001-(intOf fv).toNat);case atStart=>exact⟨0,none,0,0,[],om,by go_num,rfl,om,(show([]:List Int).length=0 from rfl),HF0,aT _ _ _ _,L0,HB0.out,sI⟩
 case round=>
  obtain⟨far,q,kq,m,S,hfar,rfl,rfl,hmn,HSm,HNF,HOW,HL,hbel,hlt0⟩:=hrel;by_cases hf:far≤1000
  ·obtain⟨wo,rfl⟩: ∃wo:World,wo=wr:=⟨_,rfl⟩
   clear L0 HB0;have hfd:decide ((far:Int)≤1000)=true:=dQt om;go_wp2_with fail;go_loopw [5,7] (fun ov iv wr=>∃(i:Nat) (q:Option Addr) (kq m:Nat) (S:List Int),i≤n∧iv= .int .i64 i∧ov= .slice q m kq∧m≤n∧Hid (S.length=m)∧Hid (NF l n far i S)∧Hid (wr.ownsRow (w.heap.size+1) 3 1 (.slice q m kq) m (ints S))∧Hid (jR wr w.heap.size [.slice p n cap,.slice (some ⟨gN,oN,none⟩) n k,.int .i64 mn,.int .i64 lw,.int .i64 hi])∧Below w.heap.size w wr∧w.heap.size<wr.heap.size) (fun _ iv _=>n-(intOf iv).toNat);case atStart=>exact⟨0,q,kq,m,S,om,by go_num,rfl,hmn,HSm,HNF,HOW,HL,hbel,hlt0⟩
   case round=>
    obtain⟨i,q2,kq2,m2,S2,hile,rfl,rfl,hmn2,HSm2,HNF2,HOW2,HL2,Ws,hlt2⟩:=hrel;have a0:=HL2.out.gC 0;have a1:=HL2.out.gC 1;have al:=HL2.out.lt;clear HSm HNF HOW HL hbel hlt0;by_cases hin:i<n
    ·have c0:=(Ws.cell (p:=⟨gN,oN+v,none⟩) hgN).trans HCU.out
     obtain⟨ki,hki⟩:=eY (uJ l (i:Int));have c1:=(Ws.cell (p:=⟨gl,ol+i,none⟩) hgl).trans (HR.out i hin);rw[←hki] at c1;have HKI:=ah hki;have z0:gN<wr.heap.size:=om;have z1:gl<wr.heap.size:=om;have i0:(0:Int)≤(i:Int):=om;have i1:(i:Int)<(n:Int):=om;clear hki;by_cases hk:ki=(far:Int)
     ·have hb:(ki==(far:Int))=true:=by simp[hk]
      have HN2:=ah (HNF2.out.hit hin (by rw[←HKI.out];exact hk));have hlen2:=HN2.out.len;have hil:(ints S2).length=m2:=by rw[lV];exact HSm2.out
      have OW2:Hid (∀o,(wr.alloc o).ownsRow (w.heap.size+1) 3 1 (.slice q2 m2 kq2) (ints S2).length (ints S2)):=fun o=>by rw[hil];exact HOW2.out.alloc o
      have HIL:=ah hil;have hm1:m2+1≤n:=by have:=HSm2.out;simp at hlen2;omega
      have hS1:Hid ((S2++[(i:Int)]).length=m2+1):=by show _=_;have:=HSm2.out;simp;omega
      clear hil hk hlen2;go_wp2_with (first|(at_builtin;refine rD (base:=w.heap.size+1) (v:=.slice q2 m2 kq2) (us:=ints S2) (ms:=[.int .i64 i]) (p:=some ⟨wr.heap.size,0,none⟩) Sr rfl (.tmp 29) (.tmp 31) rf rf 1 rf rfl (OW2.out _) (qQ _ _ _) (by intro x hx;simp at hx;subst hx;rfl) (by rw[HIL.out];simp;omega) (by simp;omega) ?_;intro qb kb w4 kV hg4 ho4));have e4:ints S2++[Value.int .i64 i]=ints (S2++[(i:Int)]):=by simp[ints]
      have l4:(ints (S2++[(i:Int)])).length=m2+1:=by rw[lV];exact hS1.out
      rw[e4,l4] at kV;have OW4:=ah kV;have hb4:Below w.heap.size w w4:=(Ws.alloc om _).grown hg4 (by simp;omega) (fun r hr=>by have:=((OW2.out (.cells #[.int .i64 i] 3)).lt r hr).1;omega);have LI:Hid ((ints S2).length+1=m2+1):=by have:=HIL.out;show _=_;omega
      have HL4:Hid (jR w4 w.heap.size [.slice p n cap,.slice (some ⟨gN,oN,none⟩) n k,.int .i64 mn,.int .i64 lw,.int .i64 hi]):=(HL2.out.past (.cells #[.int .i64 i] 3)).keep (kJ hg4) (fun hq=>by have:=jZ (OW2.out (.cells #[.int .i64 i] 3)) hq;omega);have z4:=hg4.size;simp at z4;clear kV hg4 ho4 OW2 e4 l4;simp only[HIL.out];go_wp2;go_roundw;case rel=>exact⟨i+1,qb,kb,m2+1,S2++[(i:Int)],om,by go_num,rfl,hm1,hS1,HN2,OW4,HL4,hb4,om⟩
      case measure=>simp[intOf];omega
     ·have hb:(ki==(far:Int))=false:=by simp[hk]
      have HN2:=ah (HNF2.out.miss (by rw[←HKI.out];exact hk));clear hk;go_wp2;go_roundw;case rel=>exact⟨i+1,q2,kq2,m2,S2,om,by go_num,rfl,hmn2,HSm2,HN2,HOW2,HL2,Ws,hlt2⟩
      case measure=>simp[intOf];omega
    ·obtain rfl:i=n:=by omega
     have HN2:=ah HNF2.out.next;go_wp2;go_roundw;case rel=>exact⟨far+1,q2,kq2,m2,S2,om,by go_num,rfl,hmn2,HSm2,HN2,HOW2,HL2,Ws,hlt2⟩
     case measure=>simp[intOf];omega
  ·obtain rfl:far=1001:=by omega
   have hfd:decide (((1001:Nat):Int)≤1000)=false:=by decide
   have hSD:S=D:=Ij HNF.out.pw HOD.out.pw (fun x=>by
    rw[HNF.out.mem x,HOD.out.mem x];constructor
    ·exact fun q=>q.1
    ·intro q
     have:=HK.out x q.1 q.2;exact⟨q,.inl om⟩)
   subst hSD;have hm:S.length=m:=HSm.out;have HM:=ah hm;clear hm hf;go_wp2;go_ret;refine⟨q,kq,(by show Ending.returned (.slice q m kq)=_;rw[HM.out]),?_,hbel⟩;rw[HM.out];exact qB HOW.out om
theorem vO {α:Type} {p:α→Bool} {xs:List α} {j:Nat} {x:α} (h:xs[j]?=some x) (hp:(xs.take j).any p=false) (hx:p x=false):(xs.take (j+1)).any p=false:=by rw[tF h,hp,hx];rfl
theorem tV {α:Type} {p:α→Bool} {xs:List α} {j:Nat} {x:α} (h:xs[j]?=some x) (hx:p x=true):xs.any p=true:=fA.2 ⟨x,aF h,hx⟩
theorem yT {P:List Int} {N:List (List Int)} {mn lw hi:Int} (h:Aq P N mn lw hi=false):uF P N mn lw hi=2:=by unfold uF;rw[if_pos h]
theorem Il {P:List Int} {N:List (List Int)} {mn lw hi:Int} (h:P.any yG=true):uF P N mn lw hi=2:=yT (by unfold Aq;rw[h];simp)
theorem Wt {P:List Int} {N:List (List Int)} {mn lw hi:Int} (h:N.any wI=true):uF P N mn lw hi=2:=yT (by unfold Aq;rw[h];simp)
theorem Ce {P:List Int} {N:List (List Int)} {mn lw hi:Int} (h:sZ mn lw hi=false):uF P N mn lw hi=2:=yT (by unfold Aq;rw[h];simp)
theorem bnd_yes {P:List Int} {N:List (List Int)} {mn lw hi:Int} (h1:1≤P.length) (h2:P.length≤4) (h3:P.any yG=false) (h4:N.any wI=false) (h5:sZ mn lw hi=true):uF P N mn lw hi=if sqC P N&& !Jq N then 0 else 3:=by
 unfold uF;have:Aq P N mn lw hi=true:=by unfold Aq;rw[dQt h1,dQt h2,h3,h4,h5];rfl
 rw[if_neg (by rw[this];simp)]
theorem EA (X:List Nat) (vP vN:Value) (P:List Int) (N:List (List Int)) (mn lw hi:Int) (w:World) (h:Cfg X w vP vN P N):
 Calls prog 43 #[.agg #[vP,vN,.int .i64 mn,.int .i64 lw,.int .i64 hi]] w fun e w'=>e= .returned (.int .i64 ((uF P N mn lw hi:Nat):Int))∧Below w.heap.size w w':=by
 obtain⟨p,cap,rfl,hcp,hmx,hP⟩:=h.p.int;obtain⟨q,k,rfl,hck,hkm,hN⟩:=h.n.form;have HP:=ah hP;have HN:=ah hN;unfold maxLen at hmx hkm;clear hP hN h;by_cases hp:P.length<1∨4<P.length
 ·have e:uF P N mn lw hi=2:=yT (by unfold Aq;rcases hp with q|q;(·rw[dQf (show¬1≤P.length by omega)];simp);(·rw[dQf (show¬P.length≤4 by omega)];simp))
  have E:=ah e;rw[e];clear e;rcases hp with hp|hp
  ·obtain hp:P.length=0:=by omega
   rw[hp] at hcp ⊢;clear hp;go_in
   go_wp2;go_ret;exact⟨rfl,jY⟩
  ·go_in
   go_wp2;go_ret;exact⟨rfl,jY⟩
 have hp1:1≤P.length:=om;have hp4:P.length≤4:=om;clear hp;obtain⟨n,hn⟩:=eY P.length;obtain⟨m,hm⟩:=eY N.length;have EN:=ah hn;have EM:=ah hm;rw[←hn] at hp1 hp4 hcp ⊢;rw[←hm] at hck ⊢;have L0:=ah (jR.mk_ w [.slice p n cap,.slice q m k,.int .i64 mn,.int .i64 lw,.int .i64 hi] 98 rfl);have HB0:=ah (show Below w.heap.size w (w.alloc (.cells [.slice p n cap,.slice q m k,.int .i64 mn,.int .i64 lw,.int .i64 hi].toArray 98)) from jY);obtain⟨s0,hs0⟩: ∃s0:Bool,((m:Int)==(n:Int))=s0:=⟨_,rfl⟩;have HS0:Hid (s0=decide (N.length=P.length)):=by
  show _=_;rw[←hs0,hn,hm];by_cases e:N.length=P.length
  ·rw[dQt e,e];simp
  ·rw[dQf e];simp;omega
 clear hn hm;go_in
 go_wp2_with fail;go_loopw [4] (fun iv wr=>∃i:Nat,i≤n∧iv= .int .i64 i∧Hid ((P.take i).any yG=false)∧wr=(w.alloc (.cells [.slice p n cap,.slice q m k,.int .i64 mn,.int .i64 lw,.int .i64 hi].toArray 98))) (fun iv _=>n-(intOf iv).toNat);case atStart=>exact⟨0,bq _,by go_num,(show _=_ by simp),rfl⟩
 case round=>
  obtain⟨i,hi',rfl,HA,rfl⟩:=hrel;by_cases hin:i<n
  ·obtain⟨x,hx⟩: ∃x,P[i]?=some x:=⟨P[i]'(by rw[←EN.out];exact hin),aA _⟩
   obtain⟨g,off,rfl,_,hg,hc⟩:=HP.out i x hx;have r1:=(HB0.out.cell (p:=⟨g,off+i,none⟩) hg).trans hc;have i0:(0:Int)≤(i:Int):=om;have i1:(i:Int)<(n:Int):=om;have gr:g<(w.alloc (.cells [.slice (some ⟨g,off,none⟩) n cap,.slice q m k,.int .i64 mn,.int .i64 lw,.int .i64 hi].toArray 98)).heap.size:=by simp;omega
   have HX:=ah hx;clear hx hc;by_cases hb:x<1
   ·have d1:decide (x<1)=true:=dQt hb
    have E:Hid (uF P N mn lw hi=2):=Il (tV HX.out (by unfold yG;simp;omega));clear hb;go_wp2;go_ret;exact⟨by rw[E.out];rfl,HB0.out⟩
   have d1:decide (x<1)=false:=dQf hb;by_cases hb2:256<x
   ·have d2:decide (256<x)=true:=dQt hb2
    have E:Hid (uF P N mn lw hi=2):=Il (tV HX.out (by unfold yG;simp;omega));clear hb hb2;go_wp2;go_ret;exact⟨by rw[E.out];rfl,HB0.out⟩
   have d2:decide (256<x)=false:=dQf hb2;have NX:Hid ((P.take (i+1)).any yG=false):=vO HX.out HA.out (by unfold yG;simp;omega);clear hb hb2;go_wp2;go_roundw;case rel=>exact⟨i+1,om,by go_num,NX,trivial⟩
   case measure=>simp[intOf];omega
  ·have HA1:Hid (P.any yG=false):=by
    show _=_;have:=HA.out;rwa [show i=P.length by have:=EN.out;omega,bU] at this
   obtain rfl:i=n:=om;have K0:=L0.out;clear hin HA;have k0:=K0.gC 0;have k1:=K0.gC 1;have k2:=K0.gC 2;have k3:=K0.gC 3;have k4:=K0.gC 4;clear K0;go_wp2_with fail;go_loopw [5,6] (fun sv iv wr=>∃(j:Nat) (s:Bool),j≤m∧iv= .int .i64 j∧sv= .bool s∧Hid ((N.take j).any wI=false)∧Hid (s=(s0&& !(N.take j).any (rE i)))∧wr=(w.alloc (.cells [.slice p i cap,.slice q m k,.int .i64 mn,.int .i64 lw,.int .i64 hi].toArray 98))) (fun _ iv _=>m-(intOf iv).toNat);case atStart=>exact⟨0,s0,bq _,by go_num,rfl,(show _=_ by simp),(show _=_ by simp),rfl⟩
   case round=>
    obtain⟨j,s,hj',rfl,rfl,HF,HS,rfl⟩:=hrel;by_cases hjm:j<m
    ·obtain⟨l,hl⟩: ∃l,N[j]?=some l:=⟨N[j]'(by rw[←EM.out];exact hjm),aA _⟩
     obtain⟨g,off,u,rfl,_,hg,hc,hu⟩:=HN.out j l hl;obtain⟨pl,kl,rfl,hkl,hml,hcl⟩:=hu.int;have r1:=(HB0.out.cell (p:=⟨g,off+j,none⟩) hg).trans hc;have j0:(0:Int)≤(j:Int):=om;have j1:(j:Int)<(m:Int):=om;have gr:g<(w.alloc (.cells [.slice p i cap,.slice (some ⟨g,off,none⟩) m k,.int .i64 mn,.int .i64 lw,.int .i64 hi].toArray 98)).heap.size:=by simp;omega
     have HL:=ah hl;have HCL:=ah hcl;unfold maxLen at hml;clear hl hu hc hcl;obtain⟨c,hc⟩:=eY l.length;have EC:=ah hc;rw[←hc] at r1 hkl;clear hc;go_wp2_with fail;go_loopw [7] (fun iv wr=>∃t:Nat,t≤c∧iv= .int .i64 t∧Hid ((l.take t).any rV=false)∧wr=(w.alloc (.cells [.slice p i cap,.slice (some ⟨g,off,none⟩) m k,.int .i64 mn,.int .i64 lw,.int .i64 hi].toArray 98))) (fun iv _=>c-(intOf iv).toNat);case atStart=>exact⟨0,bq _,by go_num,(show _=_ by simp),rfl⟩
     case round=>
      obtain⟨t,ht',rfl,HT,rfl⟩:=hrel;by_cases htc:t<c
      ·obtain⟨x,hx⟩: ∃x,l[t]?=some x:=⟨l[t]'(by rw[←EC.out];exact htc),aA _⟩
       obtain⟨g2,off2,rfl,_,hg2,hc2⟩:=HCL.out t x hx;have r2:=(HB0.out.cell (p:=⟨g2,off2+t,none⟩) hg2).trans hc2;have t0:(0:Int)≤(t:Int):=om;have t1:(t:Int)<(c:Int):=om;have HX:=ah hx;clear hx hc2;by_cases hb:x<0
       ·have d1:decide (x<0)=true:=dQt hb
        have E:Hid (uF P N mn lw hi=2):=Wt (tV HL.out (tV HX.out (by unfold rV;simp;omega)));clear hb;go_wp2;go_ret;exact⟨by rw[E.out];rfl,HB0.out⟩
       have d1:decide (x<0)=false:=dQf hb;by_cases hb2:1000<x
       ·have d2:decide (1000<x)=true:=dQt hb2
        have E:Hid (uF P N mn lw hi=2):=Wt (tV HL.out (tV HX.out (by unfold rV;simp;omega)));clear hb hb2;go_wp2;go_ret;exact⟨by rw[E.out];rfl,HB0.out⟩
       have d2:decide (1000<x)=false:=dQf hb2;have NX:Hid ((l.take (t+1)).any rV=false):=vO HX.out HT.out (by unfold rV;simp;omega);clear hb hb2;go_wp2;go_roundw;case rel=>exact⟨t+1,om,by go_num,NX,trivial⟩
       case measure=>simp[intOf];omega
      ·have hlf:wI l=false:=by
        have:=HT.out;rw[show t=l.length by have:=EC.out;omega,bU] at this;exact this
       have NF2:Hid ((N.take (j+1)).any wI=false):=vO HL.out HF.out hlf;obtain rfl:t=c:=om;clear htc HT hlf;by_cases hln:t=i
       ·have d1:((t:Int) !=(i:Int))=false:=bne_eq_false_iff_eq.2 om
        have hle:rE i l=false:=by unfold rE;rw[←EC.out,hln];simp
        have NS:Hid (s=(s0&& !(N.take (j+1)).any (rE i))):=by show _=_;rw[tF HL.out,hle,Bool.or_false];exact HS.out
        clear hln hle;go_wp2;go_roundw;case rel=>exact⟨j+1,s,om,by go_num,rfl,NF2,NS,trivial⟩
        case measure=>simp[intOf];omega
       ·have d1:((t:Int) !=(i:Int))=true:=bne_iff_ne.2 om
        have hle:rE i l=true:=by unfold rE;rw[←EC.out];simp;omega
        have NS:Hid (false=(s0&& !(N.take (j+1)).any (rE i))):=by show _=_;rw[tF HL.out,hle];simp
        clear hln hle;go_wp2;go_roundw;case rel=>exact⟨j+1,false,om,by go_num,rfl,NF2,NS,trivial⟩
        case measure=>simp[intOf];omega
    ·have HF1:Hid (N.any wI=false):=by
      show _=_;have:=HF.out;rwa [show j=N.length by have:=EM.out;omega,bU] at this
     have HS1:Hid (s=sqC P N):=by
      show _=_;have:=HS.out;rw[show j=N.length by have:=EM.out;omega,bU,HS0.out,EN.out] at this;exact this
     obtain rfl:j=m:=om;clear hjm HF HS;by_cases hm0:mn<0
     ·have d1:decide (mn<0)=true:=dQt hm0
      have E:Hid (uF P N mn lw hi=2):=Ce (by unfold sZ;rw[dQf (show¬0≤mn by omega)];rfl);clear hm0;go_wp2;go_ret;exact⟨by rw[E.out];rfl,HB0.out⟩
     have d1:decide (mn<0)=false:=dQf hm0;by_cases hm1:lw<mn
     ·have d2:decide (lw<mn)=true:=dQt hm1
      have E:Hid (uF P N mn lw hi=2):=Ce (by unfold sZ;rw[dQf (show¬mn≤lw by omega)];simp);clear hm0 hm1;go_wp2;go_ret;exact⟨by rw[E.out];rfl,HB0.out⟩
     have d2:decide (lw<mn)=false:=dQf hm1;by_cases hm2:hi<lw
     ·have d3:decide (hi<lw)=true:=dQt hm2
      have E:Hid (uF P N mn lw hi=2):=Ce (by unfold sZ;rw[dQf (show¬lw≤hi by omega)];simp);clear hm0 hm1 hm2;go_wp2;go_ret;exact⟨by rw[E.out];rfl,HB0.out⟩
     have d3:decide (hi<lw)=false:=dQf hm2;have E:Hid (uF P N mn lw hi=if sqC P N&& !Jq N then 0 else 3):=bnd_yes (by rw[←EN.out];exact hp1) (by rw[←EN.out];exact hp4) HA1.out HF1.out (by unfold sZ;simp;omega);clear hm0 hm1 hm2;cases s with
     |false=>
      have E3:Hid (uF P N mn lw hi=3):=by show _=_;rw[E.out,←HS1.out];rfl
      go_wp2;go_ret;exact⟨by rw[E3.out];rfl,HB0.out⟩
     |true=>
      have E3:Hid (uF P N mn lw hi=if !Jq N then 0 else 3):=by show _=_;rw[E.out,←HS1.out];rfl
      have hsq:Hid (N.length=P.length∧∀(j:Nat) (l:List Int),N[j]?=some l→l.length=P.length):=by
       have:=HS1.out.symm;unfold sqC at this;rw[bV] at this;refine⟨of_decide_eq_true this.1,fun j l hj=> ?_⟩;have h2:(N.any (rE P.length))=false:=by simpa using this.2
       have h3:=iJ.1 h2 l (aF hj);unfold rE at h3;simp at h3;omega
      obtain rfl:j=i:=by have:=hsq.out.1;have:=EN.out;have:=EM.out;omega
      clear k0 HS1 E;go_wp2_with fail;trace_state
      go_loopw [8] (fun iv wr=>∃t:Nat,t≤j∧iv= .int .i64 t∧Hid ((List.range t).any (Ag N)=false)∧Hid (jR wr w.heap.size [.slice p j cap,.slice q j k,.int .i64 mn,.int .i64 lw,.int .i64 hi])∧Below w.heap.size w wr) (fun iv _=>j-(intOf iv).toNat);case atStart=>exact⟨0,bq _,by go_num,(show _=_ by simp),L0,HB0.out⟩
      case round=>
       obtain⟨t,ht',rfl,HT,HLr,hbel⟩:=hrel;clear k1;by_cases htj:t<j
       ·obtain⟨wo,rfl⟩: ∃wo:World,wo=wr:=⟨_,rfl⟩
        obtain⟨l,hl⟩: ∃l,N[t]?=some l:=⟨N[t]'(by rw[←EM.out];exact htj),aA _⟩;obtain⟨g,off,u,rfl,_,hg,hc,hu⟩:=HN.out t l hl;obtain⟨pl,kl,rfl,hkl,hml,hcl⟩:=hu.int;have hll:=hsq.out.2 t l hl;rw[←EN.out] at hll;have hsn:=xB (Ag N) t;rw[HT.out,gu] at hsn;have hbr:Ag N t=GQ t l:=by unfold Ag;rw[zF hl]
        rw[hbr] at hsn;have SN:=ah hsn;have BR:=ah hbr;have t0:(0:Int)≤(t:Int):=om;have t1:(t:Int)<(j:Int):=om;rw[hll] at hkl hc;have HCC:=ah hc;have HCL:=ah hcl;have HLL:=ah hll;obtain⟨vt,hvt⟩: ∃x,l[t]?=some x:=⟨l[t]'(by rw[hll];exact htj),aA _⟩;obtain⟨g2,off2,rfl,_,hg2,hct⟩:=HCL.out t vt hvt;have HVT:=ah (zF (d:=(0:Int)) hvt);have HCT:=ah hct;unfold maxLen at hml;clear hl hu hc hcl hll hsn hbr hct hvt;go_wp2_with fail;go_loopw [9] (fun iv wr=>∃b:Nat,b≤j∧iv= .int .i64 b∧Hid ((List.range b).any (PX t l)=false)∧Hid (jR wr w.heap.size [.slice p j cap,.slice (some ⟨g,off,none⟩) j k,.int .i64 mn,.int .i64 lw,.int .i64 hi])∧Below w.heap.size w wr) (fun iv _=>j-(intOf iv).toNat);case atStart=>exact⟨0,bq _,by go_num,(show _=_ by simp),HLr,hbel⟩
        case round=>
         obtain⟨b,hb',rfl,HB,HLb,hbl⟩:=hrel;have zb:=hbl.size;by_cases hbj:b<j
         ·have k1:=HLb.out.gC 1;have kl1:=HLb.out.lt
          have r1:=(hbl.cell (p:=⟨g,off+t,none⟩) hg).trans HCC.out;have r2:=(hbl.cell (p:=⟨g2,off2+t,none⟩) hg2).trans HCT.out;obtain⟨vb,hvb⟩: ∃x,l[b]?=some x:=⟨l[b]'(by rw[HLL.out];exact hbj),aA _⟩;obtain⟨g3,off3,e3,_,hg3,hcb⟩:=HCL.out b vb hvb;have e3':g3=g2∧off3=off2:=by injection e3 with e3;injection e3 with a b;exact⟨a.symm,b.symm⟩
          obtain⟨rfl,rfl⟩:=e3';have r3:=(hbl.cell (p:=⟨g3,off3+b,none⟩) hg3).trans hcb;have hsn:=xB (PX t l) b;rw[HB.out,gu] at hsn;have ebj:PX t l b=(decide (t≠b)&&decide (vb≤vt)):=by unfold PX;rw[zF hvb,HVT.out]
          rw[ebj] at hsn;have SJ:=ah hsn;have EBJ:=ah ebj;have b0:(0:Int)≤(b:Int):=om;have b1:(b:Int)<(j:Int):=om;have gr1:g<wr.heap.size:=om;have gr3:g3<wr.heap.size:=om;clear hvb hcb e3 hsn ebj;by_cases etb:t=b
          ·have d1:((t:Int) !=(b:Int))=false:=bne_eq_false_iff_eq.2 om
           have hr:Hid ((List.range (b+1)).any (PX t l)=false):=by have:=SJ.out;rwa [dQf (by simpa using etb),Bool.false_and] at this
           clear etb;go_wp2_with fail;go_quiet (fail);go_wp2;go_roundw;case rel=>exact⟨b+1,om,by go_num,hr,HLb.out.drewNL _,below_drewN hbl _⟩
           case measure=>simp[intOf];omega
          ·have d1:((t:Int) !=(b:Int))=true:=bne_iff_ne.2 om
           by_cases hv:vb≤vt
           ·have d2:decide (vb≤vt)=true:=dQt hv
            have hbad:Jq N=true:=Ar (j:=t) (by rw[←EM.out];omega) (BR.out.trans (Ar (j:=b) (by rw[HLL.out];exact hbj) (EBJ.out.trans (by simp[etb,hv]))));have E4:Hid (uF P N mn lw hi=3):=by show _=_;rw[E3.out,hbad];rfl
            clear etb hv hbad;go_wp2_with fail;go_quiet (fail);go_wp2;go_ret;exact⟨by rw[E4.out];rfl,below_drewN hbl _⟩
           ·have d2:decide (vb≤vt)=false:=dQf hv
            have hr:Hid ((List.range (b+1)).any (PX t l)=false):=by have:=SJ.out;rwa [d2,Bool.and_false] at this
            clear etb hv;go_wp2_with fail;go_quiet (fail);go_wp2;go_roundw;case rel=>exact⟨b+1,om,by go_num,hr,HLb.out.drewNL _,below_drewN hbl _⟩
            case measure=>simp[intOf];omega
         ·have hrow:GQ t l=false:=by
           have:=HB.out;rw[show b=l.length by have:=HLL.out;omega] at this;exact this
          have NT:Hid ((List.range (t+1)).any (Ag N)=false):=by show _=_;rw[SN.out,hrow]
          obtain rfl:b=j:=om;clear hbj hrow HB;go_wp2;go_roundw;case rel=>exact⟨t+1,om,by go_num,NT,HLb,hbl⟩
          case measure=>simp[intOf];omega
       ·have hbad:Jq N=false:=by
         have:=HT.out;rw[show t=N.length by have:=EM.out;omega] at this;exact this
        have E4:Hid (uF P N mn lw hi=0):=by show _=_;rw[E3.out,hbad];rfl
        obtain rfl:t=j:=om;clear htj hbad HT;go_wp2;go_ret;exact⟨by rw[E4.out];rfl,hbel⟩
theorem Tx (M:List Nat) (m:Nat):tK (M++[m])=tK M++[.pointer (some ⟨m,0,none⟩)]:=by simp[tK]
theorem elRBud:El 187 190 (.pointer none) 8:=⟨Tryz.underlying187,kR,rfl,om⟩
theorem cfg_far {P:List Int} {N:List (List Int)} {mn lw hi:Int} (h:uF P N mn lw hi=0): ∀l∈N,∀x∈l,0≤x∧x≤1000:=by
 have hb:Aq P N mn lw hi=true:=by
  cases hq:Aq P N mn lw hi with
  |true=>rfl
  |false=>rw[yT hq] at h;cases h
 unfold Aq at hb;simp only[bV] at hb;have hf:N.any wI=false:=by simpa using hb.1.2
 intro l hl x hx;have h1:=iJ.1 hf l hl;have h2:l.any rV=false:=by simpa[wI] using h1
 have h3:=iJ.1 h2 x hx;unfold rV at h3;simp at h3;omega
def rX (Y:List Nat) (pm:Nat) (vn vo:Value) (M:List Nat):List Nat:=pm::(jS vn++jS vo++M++Y)
theorem oC {Y:List Nat} {pm:Nat} {vn vo:Value} {M:List Nat} {y:Nat}:y∈rX Y pm vn vo M↔y=pm∨y∈jS vn∨y∈jS vo∨y∈M∨y∈Y:=by unfold rX;simp[or_assoc]
structure RSt (Y:List Nat) (w0 w:World) (pm:Nat) (cs:List Value) (vn vo:Value) (ns:List Int) (M:List Nat) (us:List Value) (Ds:List (List Int)):Prop where
 c5:cs.length=5
 z:jR w pm (cs++[vn,vo])
 on:w.ownsRow (w0.heap.size+2) 190 1 vn M.length (tK M)
 oo:w.ownsRow (w0.heap.size+2) 59 1 vo us.length us
 lD:Ds.length=us.length
 bud: ∀(j m:Nat) (n:Int),M[j]?=some m→ns[j]?=some n→∃v,wS (rX Y pm vn vo M) w m n v (.slice none 0 0) (wm 0 n) []
 row: ∀(j:Nat) (u:Value) (D:List Int),us[j]?=some u→Ds[j]?=some D→nO (rX Y pm vn vo M) w u (ints D)
 ne: ∀y∈jS vn,y∉jS vo
 nm:M.Nodup∧∀m∈M,m≠pm∧m∉jS vn∧m∉jS vo
 pl:w0.heap.size<pm∧pm<w0.heap.size+2
 lm: ∀m∈M,w0.heap.size+2≤m∧m<w.heap.size
section
variable {Y:List Nat} {w0 w w':World} {pm:Nat} {cs:List Value} {vn vo:Value} {ns:List Int} {M:List Nat} {us:List Value} {Ds:List (List Int)}
theorem RSt.node (h:RSt Y w0 w pm cs vn vo ns M us Ds) {w1 W1 w4 w5:World} {m:Nat} {n:Int} {v vn':Value} (b1:Below w.heap.size w w1) (hs:w0.heap.size+2≤w.heap.size) (hb:wS (m::rX Y pm vn vo M) w1 m n v (.slice none 0 0) (wm 0 n) []) (hm:w.heap.size≤m) (hn:ns[M.length]?=some n)
 (k1:Keep [] w1 W1) (hg:W1.grownBy w4 vn.ownBlock) (ho:vn'.ownBlock=vn.ownBlock∨vn'.ownBlock=some W1.heap.size) (hw:w4.ownsRow (w0.heap.size+2) 190 1 vn' (M.length+1) (tK M++[.pointer (some ⟨m,0,none⟩)])) (e5:w5=w4.setCell ⟨pm,5,none⟩ vn'):
 RSt Y w0 w5 pm cs vn' vo ns (M++[m]) us Ds∧Keep (pm::jS vn) w w5:=by
 have kA:Keep (jS vn) w1 w4:=(k1.mono (fun _ q=>by cases q)).then (kJ hg);have kB:Keep (pm::jS vn) w1 w5:=by rw[e5];exact(kA.mono (fun _ q=>ak _ q)).setCell (p:=⟨pm,5,none⟩) (.inl sI) _
 have kC:Keep (pm::jS vn) w w5:=(Keep.of b1).then kB;have z1:=b1.size;have ml:=hb.lt;have hpm:pm<w.heap.size:=by have:=h.pl;omega
 have hvn: ∀y∈jS vn,w0.heap.size+2≤y∧y<w.heap.size:=fun y hy=>jZ h.on hy
 have hvo: ∀y∈jS vo,w0.heap.size+2≤y∧y<w.heap.size:=fun y hy=>jZ h.oo hy
 have hvn': ∀y∈jS vn',y∈jS vn∨y=W1.heap.size:=fun y hy=>by
  rw[o7] at hy ⊢;rcases ho with e|e
  ·exact .inl (e▸hy)
  ·rw[e] at hy;injection hy with hy;exact .inr hy.symm
 have hW:w1.heap.size≤W1.heap.size:=k1.size;have hpo:pm∉jS vn:=fun q=>by have:=hvn _ q;have:=h.pl;omega
 have hpo2:pm∉jS vo:=fun q=>by have:=hvo _ q;have:=h.pl;omega
 have key: ∀y∈rX Y pm vn' vo (M++[m]),y∈m::rX Y pm vn vo M∨y=W1.heap.size:=fun y hy=>by
  rcases oC.1 hy with rfl|q|q|q|q
  ·exact .inl (by simp[oC])
  ·rcases hvn' y q with r|r
   ·exact .inl (ak _ (oC.2 (.inr (.inl r))))
   ·exact .inr r
  ·exact .inl (ak _ (oC.2 (.inr (.inr (.inl q)))))
  ·rcases aD.1 q with r|r
   ·exact .inl (ak _ (oC.2 (.inr (.inr (.inr (.inl r))))))
   ·simp at r;subst r;exact .inl sI
  ·exact .inl (ak _ (oC.2 (.inr (.inr (.inr (.inr q))))))
 have hS: ∀s∈pm::jS vn,s∈rX Y pm vn vo M:=fun s q=>by
  rcases aB.1 q with rfl|q
  ·exact oC.2 (.inl rfl)
  ·exact oC.2 (.inr (.inl q))
 have keepB: ∀{m':Nat} {n':Int} {v':Value} {wx:World},wS (m::rX Y pm vn vo M) wx m' n' v' (.slice none 0 0) (wm 0 n') []→wx.heap.size≤W1.heap.size→Keep (pm::jS vn) wx w5→m'∉pm::jS vn→m'∈rX Y pm vn' vo (M++[m])→wS (rX Y pm vn' vo (M++[m])) w5 m' n' v' (.slice none 0 0) (wm 0 n') []:=by
  intro m' n' v' wx hb' hx hk hn' hmm;have h1:=hb'.more (Y:=W1.heap.size::m::rX Y pm vn vo M) (ak _ hb'.mem) (fun y hy=>by
   rcases aB.1 hy with rfl|q
   ·exact .inr hx
   ·exact .inl q)
  have h2:=h1.keep hk (fun s q=>.inl ⟨ak _ (ak _ (hS s q)),fun e=>hn' (e▸q)⟩);exact h2.sub hmm (fun y hy=>by
   rcases key y hy with q|q
   ·exact ak _ q
   ·rw[q];exact aG ..)
 have keepR: ∀{u:Value} {D:List Int},nO (rX Y pm vn vo M) w u (ints D)→nO (rX Y pm vn' vo (M++[m])) w5 u (ints D):=by
  intro u D hr;have h1:=hr.more (Y:=W1.heap.size::m::rX Y pm vn vo M) (fun y hy=>by
   rcases aB.1 hy with rfl|q
   ·exact .inr om
   ·rcases aB.1 q with rfl|q
    ·exact .inr hm
    ·exact .inl q)
  have h2:=h1.keep kC (fun s q=>.inl (ak _ (ak _ (hS s q))));exact h2.sub (fun y hy=>by
   rcases key y hy with q|q
   ·exact ak _ q
   ·rw[q];exact aG ..)
 have hz4:jR w4 pm (cs++[vn,vo]):=((h.z.go b1).keep k1 sI).keep (kJ hg) hpo;have hz5:jR w5 pm (cs++[vn',vo]):=by
  rw[e5];have:=hz4.store 5 vn' (by simp[h.c5]);rwa [show(cs++[vn,vo]).set 5 vn'=cs++[vn',vo] by rw[jD _ _ (by rw[h.c5];omega),h.c5];rfl] at this
 have own5:w5.ownsRow (w0.heap.size+2) 190 1 vn' (M.length+1) (tK M++[.pointer (some ⟨m,0,none⟩)]):=by
  rw[e5];exact jQ hw ((Keep.refl [pm] _).setCell (p:=⟨pm,5,none⟩) (.inl sI) _) (fun x hx q=>by
   simp at hx;subst hx;have:=jZ hw q;have:=h.pl;omega)
 refine⟨⟨h.c5,hz5,by rw[aW,Tx];exact own5,jQ h.oo kC (fun x hx q=> ?_),h.lD,fun j m' n' hm' hn'=> ?_,fun j u D hu hD=>keepR (h.row j u D hu hD),fun y hy q=> ?_,⟨?_,fun m' hm'=> ?_⟩,h.pl,fun m' hm'=> ?_⟩,kC⟩
 ·rcases aB.1 hx with rfl|r
  ·exact hpo2 q
  ·exact h.ne x r q
 ·by_cases e:j=M.length
  ·subst e
   rw[bP (aI _)] at hm';simp at hm';subst hm';rw[hn] at hn';obtain rfl:=aO hn';refine⟨v,keepB hb hW kB (fun q=> ?_) (oC.2 (.inr (.inr (.inr (.inl sI)))))⟩;rcases aB.1 q with r|r
   ·omega
   ·have:=hvn _ r;omega
  ·have hjl:j<M.length:=by
    have:=(au.1 hm').1;simp at this;omega
   rw[bJ hjl] at hm';obtain⟨v',hb'⟩:=h.bud j m' n' hm' hn';have hmM:=aF hm';refine⟨v',keepB (hb'.more (ak _ hb'.mem) (fun y hy=>by
    rcases aB.1 hy with rfl|q
    ·exact .inr hm
    ·exact .inl q)) om kC (fun q=> ?_) (oC.2 (.inr (.inr (.inr (.inl (av _ hmM))))))⟩
   rcases aB.1 q with r|r
   ·exact(h.nm.2 m' hmM).1 r
   ·exact(h.nm.2 m' hmM).2.1 r
 ·rcases hvn' y hy with r|r
  ·exact h.ne y r q
  ·have:=hvo y q;omega
 ·exact bF.2 ⟨h.nm.1,sI,fun a ha b hb2=>by simp at hb2;subst hb2;have:=h.lm a ha;omega⟩
 ·rcases aD.1 hm' with q|q
  ·refine⟨(h.nm.2 m' q).1,fun r=> ?_,(h.nm.2 m' q).2.2⟩
   rcases hvn' m' r with s|s
   ·exact(h.nm.2 m' q).2.1 s
   ·have:=(h.lm m' q).2;omega
  ·simp at q;subst q
   refine⟨om,fun r=> ?_,fun r=>by have:=hvo _ r;omega⟩;rcases hvn' m' r with s|s
   ·have:=hvn _ s;omega
   ·omega
 ·have:=kC.size
  rcases aD.1 hm' with q|q
  ·have:=h.lm m' q;omega
  ·simp at q;subst q
   have:=kB.size;omega
theorem RSt.order (h:RSt Y w0 w pm cs vn vo ns M us Ds) {w1 W1 w4 w5:World} {u vo':Value} {D:List Int} (b1:Below w.heap.size w w1) (hs:w0.heap.size+2≤w.heap.size) (hr:nO [] w1 u (ints D)) (hg1: ∀g,g∈jS u→w.heap.size≤g) (hru:nO (rX Y pm vn vo M) w1 u (ints D))
 (k1:Keep [] w1 W1) (hg:W1.grownBy w4 vo.ownBlock) (ho:vo'.ownBlock=vo.ownBlock∨vo'.ownBlock=some W1.heap.size) (hw:w4.ownsRow (w0.heap.size+2) 59 1 vo' (us.length+1) (us++[u])) (e5:w5=w4.setCell ⟨pm,6,none⟩ vo'):
 RSt Y w0 w5 pm cs vn vo' ns M (us++[u]) (Ds++[D])∧Keep (pm::jS vo) w w5:=by
 have kA:Keep (jS vo) w1 w4:=(k1.mono (fun _ q=>by cases q)).then (kJ hg);have kB:Keep (pm::jS vo) w1 w5:=by rw[e5];exact(kA.mono (fun _ q=>ak _ q)).setCell (p:=⟨pm,6,none⟩) (.inl sI) _
 have kC:Keep (pm::jS vo) w w5:=(Keep.of b1).then kB;have z1:=b1.size;have hpm:pm<w.heap.size:=by have:=h.pl;omega
 have hvn: ∀y∈jS vn,w0.heap.size+2≤y∧y<w.heap.size:=fun y hy=>jZ h.on hy
 have hvo: ∀y∈jS vo,w0.heap.size+2≤y∧y<w.heap.size:=fun y hy=>jZ h.oo hy
 have hvo': ∀y∈jS vo',y∈jS vo∨y=W1.heap.size:=fun y hy=>by
  rw[o7] at hy ⊢;rcases ho with e|e
  ·exact .inl (e▸hy)
  ·rw[e] at hy;injection hy with hy;exact .inr hy.symm
 have hW:w1.heap.size≤W1.heap.size:=k1.size;have hpo:pm∉jS vo:=fun q=>by have:=hvo _ q;have:=h.pl;omega
 have hpo2:pm∉jS vn:=fun q=>by have:=hvn _ q;have:=h.pl;omega
 have key: ∀y∈rX Y pm vn vo' M,y∈rX Y pm vn vo M∨y=W1.heap.size:=fun y hy=>by
  rcases oC.1 hy with rfl|q|q|q|q
  ·exact .inl (oC.2 (.inl rfl))
  ·exact .inl (oC.2 (.inr (.inl q)))
  ·rcases hvo' y q with r|r
   ·exact .inl (oC.2 (.inr (.inr (.inl r))))
   ·exact .inr r
  ·exact .inl (oC.2 (.inr (.inr (.inr (.inl q)))))
  ·exact .inl (oC.2 (.inr (.inr (.inr (.inr q)))))
 have hS: ∀s∈pm::jS vo,s∈rX Y pm vn vo M:=fun s q=>by
  rcases aB.1 q with rfl|q
  ·exact oC.2 (.inl rfl)
  ·exact oC.2 (.inr (.inr (.inl q)))
 have keepR: ∀{u:Value} {D:List Int} {wx:World},nO (rX Y pm vn vo M) wx u (ints D)→wx.heap.size≤W1.heap.size→Keep (pm::jS vo) wx w5→nO (rX Y pm vn vo' M) w5 u (ints D):=by
  intro u D wx hr hx hk;have h1:=hr.more (Y:=W1.heap.size::rX Y pm vn vo M) (fun y hy=>by
   rcases aB.1 hy with rfl|q
   ·exact .inr hx
   ·exact .inl q)
  have h2:=h1.keep hk (fun s q=>.inl (ak _ (hS s q)));exact h2.sub (fun y hy=>by
   rcases key y hy with q|q
   ·exact ak _ q
   ·rw[q];exact aG ..)
 have hz4:jR w4 pm (cs++[vn,vo]):=((h.z.go b1).keep k1 sI).keep (kJ hg) hpo;have hz5:jR w5 pm (cs++[vn,vo']):=by
  rw[e5];have:=hz4.store 6 vo' (by simp[h.c5]);rwa [show(cs++[vn,vo]).set 6 vo'=cs++[vn,vo'] by rw[jD _ _ (by rw[h.c5];omega),h.c5];rfl] at this
 have own5:w5.ownsRow (w0.heap.size+2) 59 1 vo' (us.length+1) (us++[u]):=by
  rw[e5];exact jQ hw ((Keep.refl [pm] _).setCell (p:=⟨pm,6,none⟩) (.inl sI) _) (fun x hx q=>by
   simp at hx;subst hx;have:=jZ hw q;have:=h.pl;omega)
 refine⟨⟨h.c5,hz5,jQ h.on kC (fun x hx q=> ?_),by rw[aW];exact own5,by simp[h.lD],fun j m' n' hm' hn'=> ?_,fun j u' D' hu hD=> ?_,fun y hy q=> ?_,⟨h.nm.1,fun m' hm'=> ?_⟩,h.pl,fun m' hm'=>⟨(h.lm m' hm').1,aC (h.lm m' hm').2 kC.size⟩⟩,kC⟩
 ·rcases aB.1 hx with rfl|r
  ·exact hpo2 q
  ·exact h.ne x q r
 ·obtain⟨v',hb'⟩:=h.bud j m' n' hm' hn'
  have hmM:=aF hm';have h1:=hb'.more (Y:=W1.heap.size::rX Y pm vn vo M) (ak _ hb'.mem) (fun y hy=>by
   rcases aB.1 hy with rfl|q
   ·exact .inr om
   ·exact .inl q)
  have h2:=h1.keep kC (fun s q=>.inl ⟨ak _ (hS s q),fun e=>by
   rw[e] at q;rcases aB.1 q with r|r
   ·exact(h.nm.2 m' hmM).1 r
   ·exact(h.nm.2 m' hmM).2.2 r⟩)
  exact⟨v',h2.sub (oC.2 (.inr (.inr (.inr (.inl hmM))))) (fun y hy=>by
   rcases key y hy with q|q
   ·exact ak _ q
   ·rw[q];exact aG ..)⟩
 ·by_cases e:j=us.length
  ·subst e
   rw[bP (aI _)] at hu;rw[bP (by rw[h.lD];exact aI _),h.lD] at hD;simp at hu hD;subst hu hD;exact keepR hru hW kB
  ·have hjl:j<us.length:=by
    have:=(au.1 hu).1;simp at this;omega
   rw[bJ hjl] at hu;rw[bJ (by rw[h.lD];exact hjl)] at hD;exact keepR (h.row j u' D' hu hD) om kC
 ·rcases hvo' y q with r|r
  ·exact h.ne y hy r
  ·have:=hvn y hy;omega
 ·refine⟨(h.nm.2 m' hm').1,(h.nm.2 m' hm').2.1,fun r=> ?_⟩
  rcases hvo' m' r with s|s
  ·exact(h.nm.2 m' hm').2.2 s
  ·have:=(h.lm m' hm').2;omega
end
def Qr (Y:List Nat) (mn lw hi:Int) (O:List (List Int)) (L:List Nd) (w:World) (e:Ending) (w':World):Prop:=
 ∃(X M:List Nat) (pm gN:Nat),e= .returned (.pointer (some ⟨pm,0,none⟩))∧RZ X w' pm gN mn lw hi O M L∧(∀x∈X,(x∈Y∨w.heap.size≤x)∧x<w'.heap.size)∧(∀y∈Y,y∈X)∧(pm∉Y∧gN∉Y∧∀m∈M,m∉Y)∧Below w.heap.size w w'
theorem JV (Y:List Nat) (vP vN:Value) (P:List Int) (N:List (List Int)) (mn lw hi:Int) (O:List (List Int)) (L:List Nd) (w:World) (hY: ∀y∈Y,y<w.heap.size) (h:Cfg [] w vP vN P N) (hc:uF P N mn lw hi=0) (hhi:hi≤9223372036854775807)
 (hL:L.map (·.n)=P) (hF: ∀x∈L,x.F=wm 0 x.n∧x.T=[]) (hI: ∀x∈L,Inv x.n x.F x.T) (hO:rM O L.length) (hD: ∀(i:Nat) (l D:List Int),N[i]?=some l→O[i]?=some D→ug l P.length D):
 Calls prog 49 #[.agg #[vP,vN,.int .i64 mn,.int .i64 lw,.int .i64 hi]] w (Qr Y mn lw hi O L w):=by
 obtain⟨c1,c2,c3,c4,c5,c6,c7,c8⟩:=Vv hc;obtain⟨p,cap,rfl,hcp,hmx,hcl⟩:=h.p.int;obtain⟨q,k,rfl,hck,hkm,_⟩:=h.n.form;have HY:=ah hY;have CLl:=ah hcl;have C3:=ah c3;have C4:=ah c4;have C5:=ah c5;have HLN:Hid (L.length=P.length):=by show _=_;rw[←hL,dD]
 have HMM:=ah hL;have HF:=ah hF;have HI:=ah hI;have HO:=ah hO;have HD:=ah hD;have CR:Hid (∀l∈N,∀x∈l,0≤x∧x≤1000):=cfg_far hc;obtain⟨n,hn⟩:=eY P.length;have EN:=ah hn;rw[c4,←hn] at hck ⊢;have HH:Hid (Cfg [] w (.slice p n cap) (.slice q n k) P N):=by show Cfg _ _ _ _ _ _;rw[c4,←hn] at h;exact h
 rw[←hn] at hcp c1 c2;have L0:=ah ((jR.mk_ w [.slice p n cap,.slice q n k,.int .i64 mn,.int .i64 lw,.int .i64 hi] 98 rfl).past (.cells #[.slice p n cap,.slice q n k,.int .i64 mn,.int .i64 lw,.int .i64 hi,.slice none 0 0,.slice none 0 0] 189));have Z0:=jR.mk_ (w.alloc (.cells [.slice p n cap,.slice q n k,.int .i64 mn,.int .i64 lw,.int .i64 hi].toArray 98)) [.slice p n cap,.slice q n k,.int .i64 mn,.int .i64 lw,.int .i64 hi,.slice none 0 0,.slice none 0 0] 189 (b:=w.heap.size+1) sI;have S0:Hid (RSt Y w ((w.alloc (.cells [.slice p n cap,.slice q n k,.int .i64 mn,.int .i64 lw,.int .i64 hi].toArray 98)).alloc (.cells [.slice p n cap,.slice q n k,.int .i64 mn,.int .i64 lw,.int .i64 hi,.slice none 0 0,.slice none 0 0].toArray 189)) (w.heap.size+1) [.slice p n cap,.slice q n k,.int .i64 mn,.int .i64 lw,.int .i64 hi] (.slice none 0 0) (.slice none 0 0) P [] [] []):=
  ⟨rfl,Z0,aT _ _ _ _,aT _ _ _ _,rfl,fun j m x hm=>by simp at hm,fun j u D hu=>by simp at hu,fun y hy=>by simp[jS,Value.ownBlock] at hy,⟨dR,fun m hm=>by cases hm⟩,⟨om,om⟩,fun m hm=>by cases hm⟩
 have B0:Hid (Below w.heap.size w ((w.alloc (.cells [.slice p n cap,.slice q n k,.int .i64 mn,.int .i64 lw,.int .i64 hi].toArray 98)).alloc (.cells [.slice p n cap,.slice q n k,.int .i64 mn,.int .i64 lw,.int .i64 hi,.slice none 0 0,.slice none 0 0].toArray 189))):=jY;unfold maxLen at hmx hkm;clear hY h hc hL hF hI hO hD hcl c3 c4 c5 Z0 hn;go_in
 go_wp2_with fail;go_loopw [4] (fun iv wr=>∃(i:Nat) (qn qo:Option Addr) (kn ko:Nat) (M:List Nat) (us:List Value),i≤n∧iv= .int .i64 i∧Hid (M.length=i∧us.length=i)∧Hid (RSt Y w wr (w.heap.size+1) [.slice p n cap,.slice q n k,.int .i64 mn,.int .i64 lw,.int .i64 hi] (.slice qn i kn) (.slice qo i ko) P M us (O.take i))∧Hid (jR wr w.heap.size [.slice p n cap,.slice q n k,.int .i64 mn,.int .i64 lw,.int .i64 hi])∧Below w.heap.size w wr∧w.heap.size+2≤wr.heap.size) (fun iv _=>n-(intOf iv).toNat);case atStart=>exact⟨0,none,none,0,0,[],[],bq _,by go_num,⟨rfl,rfl⟩,S0,L0,B0.out,sI⟩
 case round=>
  obtain⟨i,qn,qo,kn,ko,M,us,hin,rfl,HLEN,HR,HC,hbel,hsz⟩:=hrel;clear L0 S0 B0;by_cases hlt:i<n
  ·obtain⟨x,hx⟩: ∃x,P[i]?=some x:=⟨P[i]'(by rw[←EN.out];exact hlt),aA _⟩
   obtain⟨gp,op,rfl,_,hgp,hcx⟩:=CLl.out i x hx;have r1:=(hbel.cell (p:=⟨gp,op+i,none⟩) hgp).trans hcx;have gr:gp<wr.heap.size:=om;have hxr:=C3.out x (aF hx);have i0:(0:Int)≤(i:Int):=om;have i1:(i:Int)<(n:Int):=om;have hst:=HR.out;have RX:Hid (∀y∈rX Y (w.heap.size+1) (.slice qn i kn) (.slice qo i ko) M,y<wr.heap.size):=fun y hy=>by
    rcases oC.1 hy with rfl|q|q|q|q
    ·omega
    ·exact(jZ hst.on q).2
    ·exact(jZ hst.oo q).2
    ·exact(hst.lm y q).2
    ·have:=HY.out y q;have:=hbel.size;omega
   have NB:Hid (∀W,Below wr.heap.size wr W→Calls prog 92 #[.int .i64 x] W fun e w'=>∃m v,e= .returned (.pointer (some ⟨m,0,none⟩))∧wS (m::rX Y (w.heap.size+1) (.slice qn i kn) (.slice qo i ko) M) w' m x v (.slice none 0 0) (wm 0 x) []∧W.heap.size≤m∧Below W.heap.size W w'):=fun W hW=>JO x W hxr.1 hxr.2 (fun y hy=>aC (RX.out y hy) hW.size)
   have HX:=ah hx;have z0:=hst.z;have z5:=z0.gC 5;have z6:=z0.gC 6;have zl:=z0.lt;have a0:=HC.out.gC 0;have a1:=HC.out.gC 1;have a2:=HC.out.gC 2;have a3:=HC.out.gC 3;have a4:=HC.out.gC 4;have al:=HC.out.lt;have ZB:Hid (∀W,Below wr.heap.size wr W→W.cell? ⟨w.heap.size+1,5,none⟩=some (.slice qn i kn)∧w.heap.size+1<W.heap.size):=fun W hW=>⟨(hW.cell (p:=⟨w.heap.size+1,5,none⟩) zl).trans z5,aC zl hW.size⟩
   clear hx hcx hst z0;go_wp2_with fail;have ML:Hid (M.length=i):=HLEN.out.1;have UL:Hid (us.length=i):=HLEN.out.2;have ON:Hid (∀W,Keep [] wr W→W.ownsRow (w.heap.size+2) 190 1 (.slice qn i kn) (tK M).length (tK M)):=fun W k=>by rw[qI,ML.out];have:=jQ HR.out.on k (fun x hx=>by cases hx);rwa [ML.out] at this
   have MPL:Hid ((tK M).length+1=i+1):=by show _=_;rw[qI,ML.out]
   have CC:Hid (∀W,Below wr.heap.size wr W→W.cell? ⟨w.heap.size,0,none⟩=some (.slice (some ⟨gp,op,none⟩) n cap)∧W.cell? ⟨gp,op+i,none⟩=some (.int .i64 x)):=fun W hW=>⟨(hW.cell (p:=⟨w.heap.size,0,none⟩) al).trans a0,(hW.cell (p:=⟨gp,op+i,none⟩) gr).trans r1⟩
   have HOW:Hid (∀b,b<w.heap.size+2→b∉jS (.slice qn i kn)):=fun b hb q=>by have:=(jZ HR.out.on q).1;omega
   have ne1:w.heap.size+1≠gp:=om;have ZF:Hid (∀W,Below wr.heap.size wr W→W.frozen? ⟨w.heap.size+1,5,none⟩=false):=fun W hW=>(hW.frozen (p:=⟨w.heap.size+1,5,none⟩) zl).trans (HR.out.z.f 5 sI)
   refine kE (S:=(fun w'=>w'.cell? ⟨w.heap.size,0,none⟩=some (.slice (some ⟨gp,op,none⟩) n cap)∧w'.cell? ⟨gp,op+i,none⟩=some (.int .i64 x)∧w'.cell? ⟨w.heap.size+1,5,none⟩=some (.slice qn i kn))) 15 #[false,false,false,false,false,false,false,false,false,false,false,false,false,false,false] rfl kR kR (by(try dsimp only);go_keep) (fun hHeld=> ?_);simp only[aQ,aV];refine tk 0 ?_;refine tk 1 ?_;refine tk 2 ?_;refine tk 3 ?_;refine tk 4 ?_;refine tk 5 ?_;refine tk 6 ?_;refine tk 7 ?_;refine tk 8 ?_;refine tk 9 ?_;refine wpAnyH_ready (rs:=[10]) kR sI ?_;refine aR (jT rfl) (fun K hK=> ?_) aX;go_simp
   go_at_call 92
   refine(NB.out _ jY).mono ?_;rintro e w2 ⟨m,v,rfl,Gt,hm,hb2⟩;have B2:Below wr.heap.size wr w2:=fG jY (hb2.mono sI);have y5:=(ZB.out w2 B2).1;have yl:=(ZB.out w2 B2).2;have x0:=(CC.out w2 B2).1;have x1:=(CC.out w2 B2).2;refine hkO hK fun hHeld=> ?_
   clear hK K;refine wpAnyH_ready (rs:=[11]) kR sI ?_;refine aR (jT rfl) (fun K hK=> ?_) aX;go_simp
   refine hkO hK fun hHeld=> ?_
   clear hK K;refine wpAnyH_ready (rs:=[12]) kR sI ?_;refine aR (jT rfl) (fun K hK=> ?_) aX;refine rU (base:=w.heap.size+2) (v:=.slice qn i kn) (us:=tK M) (ms:=[.pointer (some ⟨m,0,none⟩)]) elRBud rf (.tmp 19) (.tmp 26) rf rf 1 rf rfl (ON.out _ (kep (Keep.of B2))) (by refine FD ?_;(try simp only[gG]);rw[bE _ _ _ _ (by first|omega|(simp;omega)|(simp;done))];rfl) (by intro x hx;simp at hx;subst hx;rfl) (by have:=MPL.out;simp at this ⊢;omega) (by have:=B2.size;simp at*;omega) ?_;intro qn' kn' w4 kV hg4 ho4;have k4:Keep (jS (.slice qn i kn)) w2 w4:=(show Keep (jS (.slice qn i kn)) w2 _ from(kep (Keep.refl _ _))).then (kJ hg4);have u0:=(k4.cell (b:=w.heap.size) (o:=0) (by have:=B2.size;omega) (HOW.out _ om)).trans x0;have u1:=(k4.cell (b:=gp) (o:=op+i) (by have:=B2.size;omega) (HOW.out _ om)).trans x1;have u5:=(k4.cell (b:=w.heap.size+1) (o:=5) yl (HOW.out _ om)).trans y5;have f5:=(k4.frozen (b:=w.heap.size+1) (o:=5) yl (HOW.out _ om)).trans (ZF.out w2 B2);refine hkO hK fun hHeld=> ?_
   clear hK K;refine tk 13 ?_;refine tk 14 ?_;refine wpAnyH_done kR ?_ _;simp only[oz,aP,aU];go_wp2_with fail;all_goals
    have e4:(tK M++[Value.pointer (some ⟨m,0,none⟩)]).length=i+1:=by simp[qI,ML.out]
    have e4':(tK M).length+1=i+1:=MPL.out;rw[e4] at kV ho4;obtain⟨w5,hw5⟩:=eY (w4.setCell ⟨w.heap.size+1,5,none⟩ (.slice qn' (i+1) kn'));have ND:=RSt.node (w5:=w5) (vn':=.slice qn' (i+1) kn') HR.out B2 hsz Gt (by simpa using hm) (by rw[ML.out];exact HX.out) (show Keep [] w2 _ from(kep (Keep.refl _ _))) hg4 ho4 (by rw[ML.out];exact kV) hw5;have HR5:=ah (show RSt Y w w5 (w.heap.size+1) [.slice (some ⟨gp,op,none⟩) n cap,.slice q n k,.int .i64 mn,.int .i64 lw,.int .i64 hi] (.slice qn' (i+1) kn') (.slice qo i ko) P (M++[m]) us (O.take i) from ND.1);have K5:=ah ND.2;clear ND;simp only[e4'];rw[←hw5];have w5l:w.heap.size+2≤w5.heap.size:=by have:=K5.out.size;omega
    have B5:Below w.heap.size w w5:=by
     refine hbel.trans (K5.out.below om (fun s hs=> ?_));rcases aB.1 hs with r|r
     ·omega
     ·have:=(jZ HR.out.on r).1;omega
    have HB5:=ah B5;have C5':=HC.out.keep K5.out (fun hs=>by
     rcases aB.1 hs with r|r
     ·omega
     ·have:=(jZ HR.out.on r).1;omega)
    have HC5:=ah C5';obtain⟨l,hl⟩: ∃l,N[i]?=some l:=⟨N[i]'(by rw[C4.out,←EN.out];exact hlt),aA _⟩;obtain⟨D,hD,hDl,hDm⟩:=HO.out.get (i:=i) (by rw[HLN.out,←EN.out];exact hlt);have HDD:=ah hD;have FR:Hid (∀W,Below w5.heap.size w5 W→Calls prog 93 #[.agg #[.slice (some ⟨gp,op,none⟩) n cap,.slice q n k,.int .i64 mn,.int .i64 lw,.int .i64 hi],.int .i64 i] W (Qq D W)):=fun W hW=>Ik _ _ P N mn lw hi i l D W (HH.out.below (HB5.out.trans (hW.mono om))) hl (C5.out l (aF hl)) C4.out (by rw[←EN.out];exact c2) (CR.out l (aF hl)) (HD.out i l D hl hD)
    have s0:=C5'.gC 0;have s1:=C5'.gC 1;have s2:=C5'.gC 2;have s3:=C5'.gC 3;have s4:=C5'.gC 4;have sl:=C5'.lt;have zz:=HR5.out.z;have z6':=zz.gC 6;have zl':=zz.lt;have CC5:Hid (∀W,Below w5.heap.size w5 W→jR W w.heap.size [.slice (some ⟨gp,op,none⟩) n cap,.slice q n k,.int .i64 mn,.int .i64 lw,.int .i64 hi]):=fun W hW=>HC5.out.go hW
    have ZZ5:Hid (∀W,Below w5.heap.size w5 W→jR W (w.heap.size+1) ([.slice (some ⟨gp,op,none⟩) n cap,.slice q n k,.int .i64 mn,.int .i64 lw,.int .i64 hi]++[.slice qn' (i+1) kn',.slice qo i ko])):=fun W hW=>HR5.out.z.go hW
    have OO5:Hid (∀W,Keep [] w5 W→W.ownsRow (w.heap.size+2) 59 1 (.slice qo i ko) us.length us):=fun W k=>jQ HR5.out.oo k (fun x hx=>by cases hx)
    have HOW6:Hid (∀b,b<w.heap.size+2→b∉jS (.slice qo i ko)):=fun b hb q=>by have:=(jZ HR5.out.oo q).1;omega
    clear z5 z6 zl a0 a1 a2 a3 a4 al r1 y5 yl x0 x1 u0 u1 u5 f5 kV ho4 hg4 k4 hw5 e4 e4' hl hD hDl hDm C5' zz B5 Gt hm hb2;go_wp2_with fail;refine kE (S:=(fun w'=>w'.cell? ⟨w.heap.size,0,none⟩=some (.slice (some ⟨gp,op,none⟩) n cap)∧w'.cell? ⟨w.heap.size,1,none⟩=some (.slice q n k)∧w'.cell? ⟨w.heap.size,2,none⟩=some (.int .i64 mn)∧w'.cell? ⟨w.heap.size,3,none⟩=some (.int .i64 lw)∧w'.cell? ⟨w.heap.size,4,none⟩=some (.int .i64 hi)∧w'.cell? ⟨w.heap.size+1,6,none⟩=some (.slice qo i ko))) 12 #[false,false,false,false,false,false,false,false,false,false,false,false] rfl kR kR (by(try dsimp only);go_keep) (fun hHeld=> ?_);simp only[aQ,aV];refine tk 0 ?_;refine tk 1 ?_;refine tk 2 ?_;refine tk 3 ?_;refine tk 4 ?_;refine tk 5 ?_;refine tk 6 ?_;refine wpAnyH_ready (rs:=[7]) kR sI ?_;refine aR (jT rfl) (fun K hK=> ?_) aX;go_simp
    go_at_call 93
    refine(FR.out _ jY).mono ?_;rintro e w6 ⟨q6,k6,rfl,hown6,hb6⟩;have B6:Below w5.heap.size w5 w6:=fG jY (hb6.mono sI);have X6:=CC5.out w6 B6;have Z6:=ZZ5.out w6 B6;have y6:=Z6.gC 6;have yl:=Z6.lt;have x0:=X6.gC 0;have x1:=X6.gC 1;have x2:=X6.gC 2;have x3:=X6.gC 3;have x4:=X6.gC 4;have xl:=X6.lt;clear X6 Z6;refine hkO hK fun hHeld=> ?_
    clear hK K;refine wpAnyH_ready (rs:=[8]) kR sI ?_;refine aR (jT rfl) (fun K hK=> ?_) aX;go_simp
    refine hkO hK fun hHeld=> ?_
    clear hK K;refine wpAnyH_ready (rs:=[9]) kR sI ?_;refine aR (jT rfl) (fun K hK=> ?_) aX;refine rU (base:=w.heap.size+2) (v:=.slice qo i ko) (us:=us) (ms:=[.slice q6 D.length k6]) elRow rf (.tmp 34) (.tmp 38) rf rf 1 rf rfl (OO5.out _ (kep (Keep.of B6))) (by refine FD ?_;(try simp only[gG]);rw[bE _ _ _ _ (by first|omega|(simp;omega)|(simp;done))];rfl) (by intro x hx;simp at hx;subst hx;rfl) (by have:=UL.out;simp;omega) (by have:=B6.size;simp at*;omega) ?_;intro qo' ko' w7 hown7 hg7 ho7;have k7:Keep (jS (.slice qo i ko)) w6 w7:=(show Keep (jS (.slice qo i ko)) w6 _ from(kep (Keep.refl _ _))).then (kJ hg7);have X7:=(CC5.out w6 B6).keep k7 (HOW6.out _ om);have Z7:=(ZZ5.out w6 B6).keep k7 (HOW6.out _ om);have t0:=X7.gC 0;have t1:=X7.gC 1;have t2:=X7.gC 2;have t3:=X7.gC 3;have t4:=X7.gC 4;have t6:=Z7.gC 6;have f6:=Z7.f 6 sI;have tl:=Z7.lt;clear X7 Z7;refine hkO hK fun hHeld=> ?_
    clear hK K;refine tk 10 ?_;refine tk 11 ?_;refine wpAnyH_done kR ?_ _;simp only[oz,aP,aU];go_wp2_with fail;all_goals
     have e7:(us++[Value.slice q6 D.length k6]).length=i+1:=by simp[UL.out]
     have e7':us.length+1=i+1:=by rw[UL.out]
     rw[e7] at hown7 ho7;obtain⟨w8,hw8⟩:=eY (w7.setCell ⟨w.heap.size+1,6,none⟩ (.slice qo' (i+1) ko'));have hge: ∀g∈jS (Value.slice q6 D.length k6),w5.heap.size≤g:=fun g hg=>by have:=(jZ hown6 hg).1;simpa using this
     have hr6: ∀X:List Nat,(∀x∈X,x<w5.heap.size)→nO X w6 (.slice q6 D.length k6) (ints D):=fun X hX=>qA (by rw[lV];exact hown6) (fun x hx g hg=>by have:=hge g (o7.2 hg);have:=hX x hx;omega)
     have hRX: ∀y∈rX Y (w.heap.size+1) (.slice qn' (i+1) kn') (.slice qo i ko) (M++[m]),y<w5.heap.size:=fun y hy=>by
      rcases oC.1 hy with rfl|q|q|q|q
      ·omega
      ·exact(jZ HR5.out.on q).2
      ·exact(jZ HR5.out.oo q).2
      ·exact(HR5.out.lm y q).2
      ·have:=HY.out y q;omega
     have ND:=RSt.order (w5:=w8) (vo':=.slice qo' (i+1) ko') (D:=D) HR5.out B6 w5l (hr6 [] (fun x hx=>by cases hx)) hge (hr6 _ hRX) (show Keep [] w6 _ from(kep (Keep.refl _ _))) hg7 ho7 (by rw[UL.out];exact hown7) hw8;have eT:O.take i++[D]=O.take (i+1):=by rw[bR,HDD.out];rfl
     rw[eT] at ND;have HR8:=ah ND.1;have K8:=ND.2;have B8:Below w.heap.size w w8:=HB5.out.trans (K8.below om (fun s hs=>by
      rcases aB.1 hs with r|r
      ·omega
      ·have:=(jZ HR5.out.oo r).1;omega))
     have HC8:=ah (HC5.out.keep K8 (fun hs=>by
      rcases aB.1 hs with r|r
      ·omega
      ·have:=(jZ HR5.out.oo r).1;omega))
     have w8l:w.heap.size+2≤w8.heap.size:=by have:=K8.size;omega
     have HLE:Hid ((M++[m]).length=i+1∧(us++[Value.slice q6 D.length k6]).length=i+1):=⟨by simp[ML.out],e7⟩;simp only[e7'];rw[←hw8];clear ND K8 hr6 hge hRX eT hown6 hown7 ho7 hg7 k7 t0 t1 t2 t3 t4 t6 f6 tl x0 x1 x2 x3 x4 xl y6 yl s0 s1 s2 s3 s4 sl z6' zl' hw8 e7 e7' hb6;go_wp2;go_roundw;case rel=>exact⟨i+1,qn',qo',kn',ko',M++[m],us++[Value.slice q6 D.length k6],om,by go_num,HLE,HR8,HC8,B8,w8l⟩
     case measure=>simp[intOf];omega
  ·obtain rfl:i=n:=by omega
   have a0:=HC.out.gC 0;have al:=HC.out.lt;have FIN:Hid (Qr Y mn lw hi O L w (.returned (.pointer (some ⟨w.heap.size+1,0,none⟩))) wr):=by
    have hst:=HR.out;have hlen:=HLEN.out;have hLi:L.length=i:=by rw[HLN.out,EN.out]
    have hi0:0<i:=om;have hOt:O.take i=O:=by rw[←hLi,←HO.out.1,bU]
    rw[hOt] at hst;obtain⟨rest,hrow,_,_,_,_,_⟩: ∃gN,qn=some ⟨gN,0,none⟩∧True∧True∧True∧True∧True:=by
     rcases hst.on.2 with⟨e,_⟩|⟨g,cap',cur,e,_⟩
     ·injection e with _ e2 _;omega
     ·injection e with e1 _ _
      exact⟨g,e1,trivial,trivial,trivial,trivial,trivial⟩
    subst hrow;obtain⟨kk,hkn,hkm2⟩: ∃kk:Unit,i≤kn∧kn≤maxLen:=by
     rcases hst.on.2 with⟨e,_⟩|⟨g,cap',cur,e,_,_,h2,h3,_⟩
     ·injection e with e1 _ _;cases e1
     ·injection e with _ _ e3
      subst e3;exact⟨(),by rw[←hlen.1];exact h2,h3⟩
    have hg1:rest∈jS (.slice (some ⟨rest,0,none⟩) i kn):=by simp[jS,Value.ownBlock]
    have hgl:=jZ hst.on hg1;have hz:=hst.z.lt;have hsub: ∀y∈(w.heap.size+1)::rest::(M++Y),y∈rX Y (w.heap.size+1) (.slice (some ⟨rest,0,none⟩) i kn) (.slice qo i ko) M:=fun y hy=>by
     rcases aB.1 hy with rfl|hy
     ·exact oC.2 (.inl rfl)
     rcases aB.1 hy with rfl|hy
     ·exact oC.2 (.inr (.inl hg1))
     rcases aD.1 hy with hy|hy
     ·exact oC.2 (.inr (.inr (.inr (.inl hy))))
     ·exact oC.2 (.inr (.inr (.inr (.inr hy))))
    have hno: ∀x∈(w.heap.size+1)::rest::(M++Y),∀g,(Value.slice qo i ko).ownBlock=some g→x≠g:=fun x hx g hg e=>by
     subst e;have hg':=o7.2 hg;rcases aB.1 hx with rfl|hx
     ·have:=(jZ hst.oo hg').1;omega
     rcases aB.1 hx with rfl|hx
     ·exact hst.ne _ hg1 hg'
     rcases aD.1 hx with hx|hx
     ·exact(hst.nm.2 _ hx).2.2 hg'
     ·have:=(jZ hst.oo hg').1;have:=HY.out _ hx;omega
    have hnl:jR wr rest (tK M):=V5 (n:=M.length) (cap:=kn) (by rw[hlen.1];have:=hst.on;rwa [hlen.1] at this);refine⟨(w.heap.size+1)::rest::(M++Y),M,w.heap.size+1,rest,rfl,⟨⟨.slice p i cap,.slice q i k,kn,ko,qo,?_,by rw[hLi];exact hkn,hkm2,?_⟩,hnl,by rw[hlen.1,hLi],fun j m y hm hy=> ?_,HI.out,⟨sI,sI⟩,⟨om,fun q=>(hst.nm.2 _ q).1 rfl,fun q=>(hst.nm.2 _ q).2.1 hg1,hst.nm.1⟩,HO.out,⟨c6,c7,c8,hhi⟩⟩,fun x hx=> ?_,fun y hy=>by simp[hy],⟨fun q=>by have:=HY.out _ q;omega,fun q=>by have:=HY.out _ q;omega,fun m hm q=>by have:=HY.out _ q;have:=hst.lm m hm;omega⟩,hbel⟩
    ·rw[hLi];exact hst.z
    ·rw[hLi]
     have hoo:=hst.oo;refine⟨us,by rw[hlen.2,HO.out.1,hLi],?_,fun j u xs hu hxs=>(hst.row j u xs hu hxs).sub hsub⟩;have h2:=qA (X:=(w.heap.size+1)::rest::(M++Y)) hoo hno;exact h2
    ·have hyx:P[j]?=some y.n:=by rw[←HMM.out,gq,hy];rfl
     obtain⟨v,hb⟩:=hst.bud j m y.n hm hyx;obtain⟨f1,f2⟩:=HF.out y (aF hy);rw[f1,f2];exact⟨v,_,hb.sub (by simp[aF hm]) hsub⟩
    ·rcases aB.1 hx with rfl|hx
     ·exact⟨.inr om,om⟩
     rcases aB.1 hx with rfl|hx
     ·exact⟨.inr om,om⟩
     rcases aD.1 hx with hx|hx
     ·have:=hst.lm _ hx;exact⟨.inr om,om⟩
     ·exact⟨.inl hx,by have:=HY.out _ hx;have:=hbel.size;omega⟩
   go_wp2;go_ret;exact FIN.out
