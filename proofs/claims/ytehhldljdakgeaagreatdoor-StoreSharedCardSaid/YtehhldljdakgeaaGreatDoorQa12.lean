/- Lemmas and contracts for the claim's last text: STake. -/
import Derived.Test.YtehhldljdakgeaaGreatDoorQa01
import Derived.Test.YtehhldljdakgeaaGreatDoorQa11
set_option linter.unusedSimpArgs false
set_option linter.unusedVariables false
set_option maxHeartbeats 16000000
set_option maxRecDepth 100000
namespace Go.Proofs.YtehhldljdakgeaaGreatDoor
open Go.RowKit Go.Maps
attribute [local go_sem ↓] aJ aK
theorem yY {v:Int} {C:List Sl} {i:Nat} {s:Sl} (hs:C[i]?=some s) (h: ¬(s.nd=v∧jQ s<s.T.length)):mX v C (i+1)=mX v C i:=by
 show(match C[i]? with|none=>_|some s=>_)=_;rw[hs];simp only[if_neg h]
theorem Fz {v:Int} {C:List Sl} {i:Nat} {s:Sl} (hs:C[i]?=some s) (h:s.nd=v∧jQ s<s.T.length) (hb:mX v C i=none):mX v C (i+1)=some i:=by
 show(match C[i]? with|none=>_|some s=>_)=_;rw[hs];simp only[if_pos h,hb]
theorem CX {v:Int} {C:List Sl} {i m:Nat} {s z:Sl} (hs:C[i]?=some s) (h:s.nd=v∧jQ s<s.T.length) (hb:mX v C i=some m) (hz:C[m]?=some z):mX v C (i+1)=if jQ z<jQ s then some i else some m:=by
 show(match C[i]? with|none=>_|some s=>_)=_;rw[hs];simp only[if_pos h,hb,x9 hz]
def BF (A:SA) (b:Option Nat):Value:=match b with
 |none=>.pointer none
 |some m=>match A[m]? with|some p=>.pointer (some ⟨p.1,0,none⟩)|none=>.pointer none
theorem oZ {A:SA} {m:Nat} {p:Nat×Nat} (h:A[m]?=some p):BF A (some m)= .pointer (some ⟨p.1,0,none⟩):=by unfold BF;simp[h]
theorem U0 (C:List Sl) (s t:Sl) (h1:t.nd=s.nd) (h2:t.pg=s.pg):(uJ C s).set (uF s.nd s.pg C) t=uJ C t:=by
 unfold uJ;have hl:(C.take (uF s.nd s.pg C)).length=uF s.nd s.pg C:=by rw[bC];have:=xZ s.nd s.pg C;omega
 rw[ji _ _ om,hl,iV,h1,h2];rfl
theorem ins_at (C:List Sl) (s:Sl):(uJ C s)[uF s.nd s.pg C]?=some s:=by
 unfold uJ;rw[wK (xZ _ _ _)];simp
section
variable {B:Nat} {ev:Nat→Addr} {pc pz e:Nat} {mn lw hi:Int} {O:List (List Int)} {X Xt:List Nat} {vs vt:Value} {A At:SA} {c ct:Ca} {w wt:World} {r:Ca×Nat×Ob} {m:Nat} {s:Sl} {p:Nat×Nat}
def wL (B:Nat) (ev:Nat→Addr) (pc pz:Nat) (mn lw hi:Int) (O:List (List Int)) (e:Nat) (X:List Nat) (vs:Value) (A:SA) (c:Ca) (w:World) (r:Ca×Nat×Ob) (en:Ending) (w':World):Prop:=
 en= .returned (.tuple #[obV r.2.2,jW ev r.2.1])∧∃X' v' A',CS B w' pc pz mn lw hi O e X' v' A' r.1∧Keep (cay pc vs A++ys c.L) w w'∧(∀x∈X,x∈X')∧(∀x∈X',x∈X∨w.heap.size≤x)∧∀y∈cay pc v' A',y∈cay pc vs A∨w.heap.size≤y
structure TkS (B:Nat) (w wt:World) (pc pz:Nat) (mn lw hi:Int) (O:List (List Int)) (e:Nat) (X:List Nat) (vs:Value) (A:SA) (c:Ca) (r:Ca×Nat×Ob) (Xt:List Nat) (vt:Value) (At:SA) (ct:Ca) (m:Nat) (s:Sl) (p:Nat×Nat):Prop where
 cs:CS B wt pc pz mn lw hi O e Xt vt At ct
 hs:ct.C[m]?=some s
 hp:At[m]?=some p
 hm:nN s.T<s.T.length
 hl:s.T.length≤64
 rr:r=(⟨ct.L,ct.C.set m (nD s (kJ s.T) true)⟩,0,u7 e s (kJ s.T))
 kk:Keep (cay pc vs A++ys c.L) w wt
 x1: ∀x∈X,x∈Xt
 x2: ∀x∈Xt,x∈X∨w.heap.size≤x
 y1: ∀y∈cay pc vt At,y∈cay pc vs A∨w.heap.size≤y
 t1:w.heap.size∈Xt
 t2:w.heap.size∉cay pc vt At
 t3:w.heap.size∉ys ct.L
 lr:jD wt w.heap.size [.int .i64 0,.int .i64 0]
theorem TkS.fin (h:TkS B w wt pc pz mn lw hi O e X vs A c r Xt vt At ct m s p) {W W':World} (hW:W=(wt.setCell ⟨p.2,kJ s.T,none⟩ (.bool true)).setCell ⟨p.1,4,none⟩ (.int .i64 (jQ (nD s (kJ s.T) true)))) (k:Keep [w.heap.size] W W'):
 wL B ev pc pz mn lw hi O e X vs A c w r (.returned (.tuple #[obV r.2.2,.nilIface])) W':=by
 obtain⟨m1,m2,m3⟩:=h.cs.slab h.hp;obtain⟨s1,s2⟩:=tL.put (k:=kJ s.T) true (h.cs.ch.sl m p s h.hp h.hs) m3 (lV h.hm).1;rw[←hW] at s1 s2;have c1:=h.cs.use h.hp s1 s2;have c2:=c1.keep k (fun x hx=>by
  simp at hx;subst hx;exact⟨h.t2,.inl ⟨h.t1,h.t3⟩⟩)
 have e2:r.2.1=0:=by rw[h.rr]
 have e1:r.1=⟨ct.L,ct.C.set m (nD s (kJ s.T) true)⟩:=by rw[h.rr]
 refine⟨by rw[e2];rfl,Xt,vt,At,by rw[e1];exact c2,?_,h.x1,h.x2,h.y1⟩;refine(h.kk.trans s2 (fun x hx=> ?_)).trans k (fun x hx=>by simp at hx;subst hx;exact .inr (aH _));simp at hx;rcases hx with rfl|rfl
 ·exact(h.y1 _ m1).imp (fun q=>av _ q) id
 ·exact(h.y1 _ m2).imp (fun q=>av _ q) id
theorem U2 (v:Int) (u:Bool) (hE:yL B ev w) (h:CS B w pc pz mn lw hi O e X vs A c) (hv:v<0∨(c.L.length:Int)≤v):
 Calls Tryz.prog 75 #[.pointer (some ⟨pc,0,none⟩),.int .i64 v,.bool u] w (wL B ev pc pz mn lw hi O e X vs A c w (takeC mn O e c v u)):=by
 have et:takeC mn O e c v u=(c,2,(0,0)):=by unfold takeC;rw[if_pos hv]
 rw[et];have b1:Below w.heap.size w (w.alloc (.cells #[.int .i64 0,.int .i64 0] 40)):=jK;have L1:=ah (jD.mk_ w [.int .i64 0,.int .i64 0] 40 rfl);have NO:=ah (TW (hE.go b1).c (h.below b1) v hv);have e1:jW ev 2= .iface 336 (.pointer (some (ev 2))):=rfl;have FIN:Hid (∀W,Below w.heap.size w W→wL B ev pc pz mn lw hi O e X vs A c w (c,2,(0,0)) (.returned (.tuple #[.agg #[.int .i64 0,.int .i64 0],.iface 336 (.pointer (some (ev 2)))])) W):=fun W b=>⟨rfl,X,vs,A,h.below b,Keep.of b,fun _ q=>q,fun _ q=>.inl q,fun _ q=>.inl q⟩
 rw[e1] at NO;clear h hv hE e1 b1 et;go_enter Tryz.func75,Tryz.ntmps75;go_wp2_with fail;refine NO.out.mono ?_;rintro r w1 ⟨rfl,hb1⟩;have M:=L1.out.go hb1;have m0:=M.gC 0;have m1:=M.gC 1;have f0:=M.f 0 sI;have f1:=M.f 1 sI;have ml:=M.lt;have HM:=ah (M.kH (.int .i64 0) (.int .i64 0));clear M NO L1;go_wp2;have x0:=HM.out.gC 0;have x1:=HM.out.gC 1;exact bodyPost_ret (v:=.tuple #[.agg #[.int .i64 0,.int .i64 0],.iface 336 (.pointer (some (ev 2)))]) (by simp[x0,x1,results,Tryz.results75,go_sem]) rfl (FIN.out _ jK)
theorem CY {mn:Int} {O:List (List Int)} {L:List Nd} {v:Nat} {u:Bool} (hO:qY O L.length) (hv:v<L.length):(kU mn O L v 0 u).2.2.2.2=0:=by
 obtain⟨D,hD,hl,hm,hc⟩:=wF (mn:=mn) (u:=u) (k:=0) (L:=L) (v:=(v:Int)) hO om;rcases hc with⟨hp,e⟩|⟨j,y,b,hp,j0,j1,hx,hk,hb,e⟩
 ·rw[e]
 ·rw[e]
theorem TkS.rng (h:TkS B w wt pc pz mn lw hi O e X vs A c r Xt vt At ct m s p) (hI:tq e r.1):0≤s.pg∧s.pg<256:=by
 rw[h.rr] at hI;have hl:=(au.1 h.hs).1;have:=hI.rng (s:=nD s (kJ s.T) true) (aF (aY (by simpa using hl)));exact⟨this.2.2.1,this.2.2.2⟩
theorem QJ (v:Nat) (u:Bool) (hE:yL B ev w) (h:CS B w pc pz mn lw hi O e X vs A c) (hI:tq e c) (hB:B≤w.heap.size) (hv:v<c.L.length):
 Calls Tryz.prog 75 #[.pointer (some ⟨pc,0,none⟩),.int .i64 v,.bool u] w (wL B ev pc pz mn lw hi O e X vs A c w (takeC mn O e c v u)):=by
 have hvn: ¬((v:Int)<0∨(c.L.length:Int)≤(v:Int)):=om;have e1:=hI.e1;have e2:=hI.e2;have few:=hI.few;have HIN:=ah (uT (mn:=mn) (v:=(v:Int)) (u:=u) h.z.ord hI);have HTC:Hid (takeC mn O e c v u=match mX v c.C c.C.length with
  |some i=>match c.C[i]? with
   |none=>(c,2,(0,0))
   |some s=>(⟨c.L,c.C.set i (nD s (kJ s.T) true)⟩,0,u7 e s (kJ s.T))
  |none=>if (kU mn O c.L v 0 u).2.1=0 then
    (⟨(kU mn O c.L v 0 u).1,uJ c.C (nD ⟨(kU mn O c.L v 0 u).2.2.1,(kU mn O c.L v 0 u).2.2.2.1,jU e⟩ 0 true)⟩,0,((kU mn O c.L v 0 u).2.2.1,(kU mn O c.L v 0 u).2.2.2.1*64))
   else(⟨(kU mn O c.L v 0 u).1,c.C⟩,(kU mn O c.L v 0 u).2.1,(0,0))):=by
  show _=_;unfold takeC;rw[if_neg hvn];rfl
 obtain⟨R,hR⟩:=eY (takeC mn O e c v u);rw[←hR] at HTC HIN ⊢;clear hR;have TZ0:=ah (CY (mn:=mn) (u:=u) h.z.ord hv);have b1:Below w.heap.size w (w.alloc (.cells #[.int .i64 0,.int .i64 0] 40)):=jK;have L1:jD (w.alloc (.cells #[.int .i64 0,.int .i64 0] 40)) w.heap.size [.int .i64 0,.int .i64 0]:=jD.mk_ w [.int .i64 0,.int .i64 0] 40 rfl;have h1:CS B (w.alloc (.cells #[.int .i64 0,.int .i64 0] 40)) pc pz mn lw hi O e (w.heap.size::X) vs A c:=(h.more (fun x hx=>ak _ hx) (fun y hy=>by
  rcases aB.1 hy with rfl|q
  ·exact .inr (aH _)
  ·exact .inl q)).below b1
 have E1:=hE.go b1;have NC:Hid (w.heap.size∉cay pc vs A):=fun q=>by have:=(h.ch.lim _ q).2;omega
 have NY:Hid (w.heap.size∉ys c.L):=fun q=>by have:=(h.z.b.lim _ q).2;omega
 obtain⟨W1,hW1⟩:=eY (w.alloc (.cells #[.int .i64 0,.int .i64 0] 40));rw[←hW1] at b1 L1 h1 E1;obtain⟨qv,kv,evs,kv1,kv2,hrow⟩:=h1.ch.form;subst evs;have NO:=ah (cnode_ok h1 v hv);have Bq:=ah hrow;have H1:=ah h1;have HL1:=ah L1;have HE1:=ah E1;have HB1:=ah b1;have HI:=ah hI;have z01:w.heap.size<W1.heap.size:=L1.lt;clear h hE L1 h1 E1 b1 hrow hI hvn;go_enter Tryz.func75,Tryz.ntmps75;go_wp2_with fail;rw[←hW1];clear hW1;refine NO.out.mono ?_;rintro r w1 ⟨rfl,hb1⟩;have HC1:=ah (H1.out.below hb1);have c0:=HC1.out.ch.c.gC 0;have c1:=HC1.out.ch.c.gC 1;have c2:=HC1.out.ch.c.gC 2;have cl:=HC1.out.ch.c.lt;have HLR:=ah (HL1.out.go hb1);have HE2:=ah (HE1.out.go hb1);have HBW:=ah (show Below w.heap.size w w1 from HB1.out.trans (hb1.mono om));have HROW1:Hid (∀(j:Nat) (p:Nat×Nat),A[j]?=some p→∃g,qv=some ⟨g,0,none⟩∧g<w1.heap.size∧w1.cell? ⟨g,j,none⟩=some (.pointer (some ⟨p.1,0,none⟩))):=fun j p hj=>by
  obtain⟨g,a1,a2,a3⟩:=Bq.out j p hj;exact⟨g,a1,aC a2 hb1.size,(hb1.cell (p:=⟨g,j,none⟩) a2).trans a3⟩
 have z11:=hb1.size;obtain⟨n,hn⟩:=eY c.C.length;have EN:=ah hn;rw[←hn] at c2 few kv1;unfold maxLen at kv2;clear NO Bq H1 HL1 HE1 HB1 hb1 hn;go_wp2_with fail;go_loopw [9,27] (fun bv iv wr=>∃i:Nat,i≤n∧iv= .int .i64 i∧bv=BF A (mX v c.C i)∧Below w1.heap.size w1 wr) (fun _ iv _=>n-(intOf iv).toNat);case atStart=>exact⟨0,om,by go_num,rfl,jK⟩
 case round=>
  obtain⟨i,hile,rfl,hbv,hbel⟩:=hrel;have BW:Hid (∀W,Below wr.heap.size wr W→Below w1.heap.size w1 W):=fun W b=>hbel.trans (b.mono hbel.size)
  have HCR:=ah (HC1.out.below hbel);by_cases hin:i<n
  ·obtain⟨s,hs⟩: ∃s,c.C[i]?=some s:=⟨c.C[i]'(by rw[←EN.out];exact hin),aA _⟩
   obtain⟨p,hp,hsl,_⟩:=HCR.out.ch.at hs;obtain⟨g,rfl,hg,hc0⟩:=HROW1.out i p hp;have ck:wr.cell? ⟨g,i,none⟩=some (.pointer (some ⟨p.1,0,none⟩)):=(hbel.cell (p:=⟨g,i,none⟩) hg).trans hc0;have gl:g<wr.heap.size:=aC hg hbel.size;have hik:i<kv:=om;obtain⟨d0,d1,_,d3,d4,dl,_⟩:=hsl.cells;have BV:=ah (oZ hp);clear hc0 hsl;by_cases h1:s.nd=v
   ·have b1:(s.nd==(v:Int))=true:=by simp[h1]
    have b1':decide (s.nd=(v:Int))=true:=by simp[h1]
    by_cases h2:jQ s<s.T.length
    ·have b2:decide (jQ s<s.T.length)=true:=decide_eq_true h2
     have b2':decide ((jQ s:Int)<(s.T.length:Int))=true:=decide_eq_true om;cases hb:mX v c.C i with
     |none=>
      have EQ:=ah (Fz hs ⟨h1,h2⟩ hb);rw[hb] at hbv;simp only[BF] at hbv;subst hbv;clear hs hp h1 hb;generalize jQ s=a at*
      generalize s.T.length=l at*
      go_wp2_with fail;go_quiet (fail);go_wp2;go_round
      case rel=>exact⟨i+1,om,by go_num,(by rw[EQ.out,BV.out]),BW.out _ jK⟩
      case measure=>simp[intOf];omega
     |some m=>
      obtain⟨_,z,hz,_,_⟩:=lQ hb;obtain⟨y,hy,hyl,_⟩:=HCR.out.ch.at hz;obtain⟨x0,x1,_,x3,x4,xl,_⟩:=hyl.cells;have BY:=ah (oZ hy);have EQ:=ah (CX hs ⟨h1,h2⟩ hb hz);rw[hb,oZ hy] at hbv;subst hbv;by_cases h3:jQ z<jQ s
      ·have b3:decide (jQ z<jQ s)=true:=decide_eq_true h3
       have b3':decide ((jQ z:Int)<(jQ s:Int))=true:=decide_eq_true om;have EQ2:=ah (show mX v c.C (i+1)=some i by rw[EQ.out,if_pos h3]);clear hs hp h1 hb hz hy hyl EQ;generalize jQ s=a at*
       generalize s.T.length=l at*
       generalize jQ z=a' at*
       go_wp2_with fail;go_quiet (fail);go_wp2;go_round
       case rel=>exact⟨i+1,om,by go_num,(by rw[EQ2.out,BV.out]),BW.out _ jK⟩
       case measure=>simp[intOf];omega
      ·have b3:decide (jQ z<jQ s)=false:=decide_eq_false h3
       have b3':decide ((jQ z:Int)<(jQ s:Int))=false:=decide_eq_false om;have EQ2:=ah (show mX v c.C (i+1)=some m by rw[EQ.out,if_neg h3]);clear hs hp h1 hb hz hy hyl EQ h3;generalize jQ s=a at*
       generalize s.T.length=l at*
       generalize jQ z=a' at*
       go_wp2_with fail;go_quiet (fail);go_wp2;go_round
       case rel=>exact⟨i+1,om,by go_num,(by rw[EQ2.out,BY.out]),BW.out _ jK⟩
       case measure=>simp[intOf];omega
    ·have b2:decide (jQ s<s.T.length)=false:=decide_eq_false h2
     have b2':decide ((jQ s:Int)<(s.T.length:Int))=false:=decide_eq_false om;have EQ:=ah (yY (v:=(v:Int)) hs (fun q=>h2 q.2));have HBV:=ah hbv;clear hs hp h1 h2 hbv;generalize jQ s=a at*
     generalize s.T.length=l at*
     go_wp2_with fail;go_quiet (fail);go_wp2;go_round
     case rel=>exact⟨i+1,om,by go_num,(by rw[EQ.out];exact HBV.out),BW.out _ jK⟩
     case measure=>simp[intOf];omega
   ·have b1:(s.nd==(v:Int))=false:=by simp[h1]
    have b1':decide (s.nd=(v:Int))=false:=by simp[h1]
    have EQ:=ah (yY (v:=(v:Int)) hs (fun q=>h1 q.1));have HBV:=ah hbv;clear hs hp h1 hbv;go_wp2_with fail;go_quiet (fail);go_wp2;go_round
    case rel=>exact⟨i+1,om,by go_num,(by rw[EQ.out];exact HBV.out),BW.out _ jK⟩
    case measure=>simp[intOf];omega
  ·obtain rfl:i=n:=by omega
   have HKR:=ah (Keep.of (S:=cay pc (.slice qv c.C.length kv) A++ys c.L) (show Below w.heap.size w wr from HBW.out.trans (hbel.mono (by have:=HBW.out.size;omega))));have HLW:=ah (HLR.out.go hbel);cases hb:mX v c.C i with
   |some m=>
    obtain⟨_,s,hs,hnd,hm⟩:=lQ hb;obtain⟨p,hp,_,_⟩:=HCR.out.ch.at hs;rw[hb,oZ hp] at hbv;subst hbv;have rr:R=(⟨c.L,c.C.set m (nD s (kJ s.T) true)⟩,0,u7 e s (kJ s.T)):=by
     have:=HTC.out;rw[←EN.out,hb] at this;simpa[hs] using this
    have hl64:s.T.length≤64:=by rw[HI.out.len s (HI.out.get hs)];unfold jR;exact dN _ _
    have TS:=ah (show TkS B w wr pc pz mn lw hi O e X (.slice qv c.C.length kv) A c R (w.heap.size::X) (.slice qv c.C.length kv) A c m s p from⟨HCR.out,hs,hp,hm,hl64,rr,HKR.out,fun x hx=>ak _ hx,fun x hx=>by
     rcases aB.1 hx with rfl|q
     ·exact .inr (aH _)
     ·exact .inl q,fun y hy=>.inl hy,aG ..,NC.out,NY.out,HLW.out⟩)
    clear hb hs hp rr hm hnd;obtain⟨wt,ewt⟩:=eY wr;subst ewt;obtain⟨f1,f2,_⟩:=lV TS.out.hm;have SLB:=TS.out.cs.ch.sl m p s TS.out.hp TS.out.hs;obtain⟨d0,d1,_,d3,d4,dl,dl2⟩:=SLB.cells;obtain⟨k,hk⟩:=eY (kJ s.T);rw[←hk] at f1 f2;have l64:=TS.out.hl;have hml:=pJ s.T;have IX:=ah (CQ (X:=[]) s.T p.2 k wt SLB.2 hk.symm TS.out.hm TS.out.hl);have fz:wt.frozen? ⟨p.2,k,none⟩=false:=SLB.2.f k (by rw[oW];omega);have fz4:wt.frozen? ⟨p.1,4,none⟩=false:=SLB.1.f 4 (by simp[oK]);have ck:wt.cell? ⟨p.2,k,none⟩=some (.bool false):=SLB.2.c k _ (mY f2);have ne12: ¬(p.1=p.2):=(TS.out.cs.slab TS.out.hp).2.2;have ne21: ¬(p.2=p.1):=fun q=>ne12 q.symm
    have HK:=ah hk;have hms:jQ s≤64:=by have:jQ s=nN s.T:=rfl;omega
    have HMS:((jQ (nD s k true):Nat):Int)=(jQ s:Int)+1:=by
     have h0:=wZ f2 true;have h1:jQ (nD s k true)=nN (s.T.set k true):=rfl;have h2:jQ s=nN s.T:=rfl;simp at h0;omega
    have HSP:=ah (tL.put (k:=k) true SLB ne12 f1);rw[HMS] at HSP;obtain⟨g0,g1⟩:=TS.out.rng HIN.out;have ke0:(0:Int)≤(k:Int)*(e:Int):=fG om om;have ke1:(k:Int)*(e:Int)≤4096:=by
     have:=eB (show k≤64 by omega) e2;have h2:((k*e:Nat):Int)≤((64*64:Nat):Int):=om;simpa using h2
    have ro:obV R.2.2= .agg #[.int .i64 s.nd,.int .i64 (s.pg*64+(k:Int)*(e:Int))]:=by rw[TS.out.rr,←HK.out];rfl
    have RO:=ah ro;have HMS':=ah HMS;clear SLB hk f2 HMS ro;go_wp2_with fail;refine IX.out.mono ?_;rintro r2 w2 ⟨rfl,rfl⟩;go_wp2_with fail;obtain⟨W,hW⟩:=eY ((wt.setCell ⟨p.2,k,none⟩ (.bool true)).setCell ⟨p.1,4,none⟩ (.int .i64 ((jQ s:Int)+1)));rw[←hW];have hW':=ah (show W=(wt.setCell ⟨p.2,kJ s.T,none⟩ (.bool true)).setCell ⟨p.1,4,none⟩ (.int .i64 (jQ (nD s (kJ s.T) true))) by rw[←HK.out,HMS'.out];exact hW);have SP:=HSP.out;rw[←hW] at SP;obtain⟨a0,a1,_,_,_,al,_⟩:=SP.1.cells;have LC:=(TS.out.cs.use TS.out.hp SP.1 SP.2).ch.c;have q1:=LC.gC 1;have ql:=LC.lt;have LRW:jD W w.heap.size [.int .i64 0,.int .i64 0]:=TS.out.lr.keep SP.2 (fun q=>by
     have m:=TS.out.cs.slab TS.out.hp;simp at q;rcases q with q|q
     ·exact TS.out.t2 (q▸m.1)
     ·exact TS.out.t2 (q▸m.2.1))
    have v0:=LRW.gC 0;have v1:=LRW.gC 1;have vf0:=LRW.f 0 sI;have vf1:=LRW.f 1 sI;have vl:=LRW.lt;have n0:=LRW.lT.gC 0;have n1:=LRW.lT.gC 1;have nf0:=LRW.lT.f 0 sI;have nf1:=LRW.lT.f 1 sI;have HRW:=ah (LRW.kH (.int .i64 s.nd) (.int .i64 (s.pg*64+(k:Int)*(e:Int))));have HRX:=ah (LRW.store 0 (.int .i64 s.nd) sI);clear d0 d1 d3 d4 ck fz fz4 hW SP LC LRW HSP IX c0 c1 c2 cl;simp only[nD] at a0 a1;refine kX 20 kR kR ?_;simp only[aQ,aW,aP,aU];repeat still_step
    refine wpStill_nil ?_;go_wp2;have x0:=HRW.out.gC 0;have x1:=HRW.out.gC 1;have y0:=HRX.out.gC 0;refine bodyPost_ret (v:=.tuple #[.agg #[.int .i64 s.nd,.int .i64 (s.pg*64+(k:Int)*(e:Int))],.nilIface]) ?_ rfl ?_
    ·simp[x0,x1,y0,results,Tryz.results75,go_sem]
    ·rw[←RO.out]
     exact TS.out.fin hW'.out (((Keep.refl _ _).setCell (p:=⟨w.heap.size,0,none⟩) (.inl sI) _).setCell (p:=⟨w.heap.size,1,none⟩) (.inl sI) _).drew
   |none=>
    rw[hb] at hbv;simp only[BF] at hbv;subst hbv;obtain⟨L',q,nd,pg,k,hz⟩: ∃L' q nd pg k,kU mn O c.L v 0 u=(L',q,(nd,pg,k)):=⟨_,_,_,_,_,rfl⟩;have rr:=HTC.out;rw[←EN.out,hb] at rr;simp only[hz] at rr;cases q with
    |succ q=>
     rw[if_neg om] at rr;have GN:=ah (cgrow_no (u:=u) (v:=(v:Int)) (HE2.out.go hbel) HCR.out L' q nd pg k hz);obtain⟨vv,hvv⟩:=eY (ev (q+1));have e1':jW ev (q+1)= .iface 336 (.pointer (some vv)):=by rw[hvv];rfl
     have FIN:Hid (∀W W',NV B ev pc pz mn lw hi O e (w.heap.size::X) (.slice qv c.C.length kv) A c wr L' (q+1) (.returned (.tuple #[.pointer none,.iface 336 (.pointer (some vv))])) W→Keep [w.heap.size] W W'→wL B ev pc pz mn lw hi O e X (.slice qv c.C.length kv) A c w R (.returned (.tuple #[.agg #[.int .i64 0,.int .i64 0],.iface 336 (.pointer (some vv))])) W'):=fun W W' hG hK=>by
      obtain⟨_,g2,g3⟩:=hG;refine⟨by rw[rr,←e1'];rfl,w.heap.size::X,_,A,?_,?_,fun x hx=>ak _ hx,fun x hx=> ?_,fun y hy=>.inl hy⟩
      ·rw[rr]
       exact g2.keep hK (fun x hx=>by
        simp at hx;subst hx;refine⟨NC.out,.inl ⟨aG ..,?_⟩⟩;have sz:=rO mn O c.L v 0 u;rw[hz] at sz;show w.heap.size∉ys L';rw[sz.ys];exact NY.out)
      ·exact(HKR.out.then (g3.mono (fun y q=>aj _ q))).trans hK (fun x hx=>by simp at hx;subst hx;exact .inr (aH _))
      ·rcases aB.1 hx with rfl|q
       ·exact .inr (aH _)
       ·exact .inl q
     have GN2:Hid (Calls Tryz.prog 110 #[.pointer (some ⟨pc,0,none⟩),.int .i64 v,.bool u] wr fun r' w'=>r'= .returned (.tuple #[.pointer none,.iface 336 (.pointer (some vv))])∧NV B ev pc pz mn lw hi O e (w.heap.size::X) (.slice qv c.C.length kv) A c wr L' (q+1) r' w'):=GN.out.mono fun r' w' hg=>⟨by rw[←e1'];exact hg.1,hg⟩
     have LRK:Hid (∀W,Keep (ys c.L) wr W→jD W w.heap.size [.int .i64 0,.int .i64 0]):=fun W k=>HLW.out.keep k NY.out
     clear GN hz rr e1' hvv hb;go_wp2_with fail;refine GN2.out.mono ?_;rintro r' w3 ⟨rfl,hG⟩;have M:=LRK.out w3 hG.2.2;have m0:=M.gC 0;have m1:=M.gC 1;have f0:=M.f 0 sI;have f1:=M.f 1 sI;have ml:=M.lt;have HM:=ah (M.kH (.int .i64 0) (.int .i64 0));have HG:=ah hG;clear M hG;go_wp2;have x0:=HM.out.gC 0;have x1:=HM.out.gC 1;exact bodyPost_ret (v:=.tuple #[.agg #[.int .i64 0,.int .i64 0],.iface 336 (.pointer (some vv))]) (by simp[x0,x1,results,Tryz.results75,go_sem]) rfl (FIN.out _ _ HG.out (((Keep.refl _ _).setCell (p:=⟨w.heap.size,0,none⟩) (.inl sI) _).setCell (p:=⟨w.heap.size,1,none⟩) (.inl sI) _))
    |zero=>
     rw[if_pos rfl] at rr;have hk:=TZ0.out;rw[hz] at hk;simp only at hk;subst hk;have GY:=ah (TY (u:=u) (v:=(v:Int)) (HE2.out.go hbel) HCR.out HI.out (by have:=HBW.out.size;have:=hbel.size;omega) L' nd pg hz);have MKT:Hid (∀p X' v' A' W,CS B W pc pz mn lw hi O e X' v' A' ⟨L',uJ c.C ⟨nd,pg,jU e⟩⟩→A'[uF nd pg c.C]?=some p→Keep (cay pc (.slice qv c.C.length kv) A++ys c.L) wr W→(∀x∈w.heap.size::X,x∈X')→(∀x∈X',x∈w.heap.size::X∨wr.heap.size≤x)→(∀y∈cay pc v' A',y∈cay pc (.slice qv c.C.length kv) A∨wr.heap.size≤y)→TkS B w W pc pz mn lw hi O e X (.slice qv c.C.length kv) A c R X' v' A' ⟨L',uJ c.C ⟨nd,pg,jU e⟩⟩ (uF nd pg c.C) ⟨nd,pg,jU e⟩ p):=fun p X' v' A' W g1 g2 g3 g4 g5 g6=>by
      have zwr:w.heap.size<wr.heap.size:=HLW.out.lt;have f0:=Ac e1 e2;have nl:(jU e).length=jR e:=by unfold jU;simp
      have sz:=rO mn O c.L v 0 u;rw[hz] at sz;refine⟨g1,ins_at c.C ⟨nd,pg,jU e⟩,g2,?_,?_,?_,HKR.out.then g3,fun x hx=>g4 x (ak _ hx),fun x hx=> ?_,fun y hy=> ?_,g4 _ (aG ..),fun q=> ?_,?_,HLW.out.keep g3 (fun q=> ?_)⟩
      ·show nN (jU e)<(jU e).length
       rw[vO,nl];exact qF e1 e2
      ·show(jU e).length≤64
       rw[nl];unfold jR;exact dN _ _
      ·rw[rr]
       have h0:kJ (⟨nd,pg,jU e⟩:Sl).T=0:=f0;rw[h0];have h1:=U0 c.C ⟨nd,pg,jU e⟩ (nD ⟨nd,pg,jU e⟩ 0 true) rfl rfl;show _=((⟨L',(uJ c.C ⟨nd,pg,jU e⟩).set (uF nd pg c.C) (nD ⟨nd,pg,jU e⟩ 0 true)⟩,0,u7 e ⟨nd,pg,jU e⟩ 0):Ca×Nat×Ob);rw[show(uJ c.C ⟨nd,pg,jU e⟩).set (uF nd pg c.C) (nD ⟨nd,pg,jU e⟩ 0 true)=uJ c.C (nD ⟨nd,pg,jU e⟩ 0 true) from h1];unfold u7;simp
      ·rcases g5 x hx with q|q
       ·rcases aB.1 q with rfl|q
        ·exact .inr (aH _)
        ·exact .inl q
       ·exact .inr om
      ·exact(g6 y hy).imp id (fun q=>om)
      ·rcases g6 _ q with t|t
       ·exact NC.out t
       ·omega
      ·show w.heap.size∉ys L'
       rw[sz.ys];exact NY.out
      ·rcases aD.1 q with t|t
       ·exact NC.out t
       ·exact NY.out t
     clear hz rr hb TZ0 HTC;go_wp2_with fail;refine GY.out.mono ?_;rintro r' wt ⟨p,X',v',A',rfl,g1,g2,g3,g4,g5,g6⟩;obtain⟨m,hm⟩:=eY (uF nd pg c.C);obtain⟨s,hs⟩: ∃s:Sl,s=⟨nd,pg,jU e⟩:=⟨_,rfl⟩;have TS:=MKT.out p X' v' A' wt g1 g2 g3 g4 g5 g6;rw[←hm,←hs] at TS;obtain⟨ct,hct⟩: ∃ct:Ca,ct=⟨L',uJ c.C s⟩:=⟨_,rfl⟩;rw[←hct] at TS;have TS:=ah TS;clear g1 g2 g3 g4 g5 g6 MKT GY hm hs hct;obtain⟨f1,f2,_⟩:=lV TS.out.hm;have SLB:=TS.out.cs.ch.sl m p s TS.out.hp TS.out.hs;obtain⟨d0,d1,_,d3,d4,dl,dl2⟩:=SLB.cells;obtain⟨k,hk⟩:=eY (kJ s.T);rw[←hk] at f1 f2;have l64:=TS.out.hl;have hml:=pJ s.T;have IX:=ah (CQ (X:=[]) s.T p.2 k wt SLB.2 hk.symm TS.out.hm TS.out.hl);have fz:wt.frozen? ⟨p.2,k,none⟩=false:=SLB.2.f k (by rw[oW];omega);have fz4:wt.frozen? ⟨p.1,4,none⟩=false:=SLB.1.f 4 (by simp[oK]);have ck:wt.cell? ⟨p.2,k,none⟩=some (.bool false):=SLB.2.c k _ (mY f2);have ne12: ¬(p.1=p.2):=(TS.out.cs.slab TS.out.hp).2.2;have ne21: ¬(p.2=p.1):=fun q=>ne12 q.symm
     have HK:=ah hk;have hms:jQ s≤64:=by have:jQ s=nN s.T:=rfl;omega
     have HMS:((jQ (nD s k true):Nat):Int)=(jQ s:Int)+1:=by
      have h0:=wZ f2 true;have h1:jQ (nD s k true)=nN (s.T.set k true):=rfl;have h2:jQ s=nN s.T:=rfl;simp at h0;omega
     have HSP:=ah (tL.put (k:=k) true SLB ne12 f1);rw[HMS] at HSP;obtain⟨g0,g1⟩:=TS.out.rng HIN.out;have ke0:(0:Int)≤(k:Int)*(e:Int):=fG om om;have ke1:(k:Int)*(e:Int)≤4096:=by
      have:=eB (show k≤64 by omega) e2;have h2:((k*e:Nat):Int)≤((64*64:Nat):Int):=om;simpa using h2
     have ro:obV R.2.2= .agg #[.int .i64 s.nd,.int .i64 (s.pg*64+(k:Int)*(e:Int))]:=by rw[TS.out.rr,←HK.out];rfl
     have RO:=ah ro;have HMS':=ah HMS;clear SLB hk f2 HMS ro;go_wp2_with fail;refine IX.out.mono ?_;rintro r2 w2 ⟨rfl,rfl⟩;go_wp2_with fail;obtain⟨W,hW⟩:=eY ((wt.setCell ⟨p.2,k,none⟩ (.bool true)).setCell ⟨p.1,4,none⟩ (.int .i64 ((jQ s:Int)+1)));rw[←hW];have hW':=ah (show W=(wt.setCell ⟨p.2,kJ s.T,none⟩ (.bool true)).setCell ⟨p.1,4,none⟩ (.int .i64 (jQ (nD s (kJ s.T) true))) by rw[←HK.out,HMS'.out];exact hW);have SP:=HSP.out;rw[←hW] at SP;obtain⟨a0,a1,_,_,_,al,_⟩:=SP.1.cells;have LC:=(TS.out.cs.use TS.out.hp SP.1 SP.2).ch.c;have q1:=LC.gC 1;have ql:=LC.lt;have LRW:jD W w.heap.size [.int .i64 0,.int .i64 0]:=TS.out.lr.keep SP.2 (fun q=>by
      have m:=TS.out.cs.slab TS.out.hp;simp at q;rcases q with q|q
      ·exact TS.out.t2 (q▸m.1)
      ·exact TS.out.t2 (q▸m.2.1))
     have v0:=LRW.gC 0;have v1:=LRW.gC 1;have vf0:=LRW.f 0 sI;have vf1:=LRW.f 1 sI;have vl:=LRW.lt;have n0:=LRW.lT.gC 0;have n1:=LRW.lT.gC 1;have nf0:=LRW.lT.f 0 sI;have nf1:=LRW.lT.f 1 sI;have HRW:=ah (LRW.kH (.int .i64 s.nd) (.int .i64 (s.pg*64+(k:Int)*(e:Int))));have HRX:=ah (LRW.store 0 (.int .i64 s.nd) sI);clear d0 d1 d3 d4 ck fz fz4 hW SP LC LRW HSP IX c0 c1 c2 cl;simp only[nD] at a0 a1;refine kX 20 kR kR ?_;simp only[aQ,aW,aP,aU];repeat still_step
     refine wpStill_nil ?_;go_wp2;have x0:=HRW.out.gC 0;have x1:=HRW.out.gC 1;have y0:=HRX.out.gC 0;refine bodyPost_ret (v:=.tuple #[.agg #[.int .i64 s.nd,.int .i64 (s.pg*64+(k:Int)*(e:Int))],.nilIface]) ?_ rfl ?_
     ·simp[x0,x1,y0,results,Tryz.results75,go_sem]
     ·rw[←RO.out]
      exact TS.out.fin hW'.out (((Keep.refl _ _).setCell (p:=⟨w.heap.size,0,none⟩) (.inl sI) _).setCell (p:=⟨w.heap.size,1,none⟩) (.inl sI) _).drew
end
end Go.Proofs.YtehhldljdakgeaaGreatDoor
