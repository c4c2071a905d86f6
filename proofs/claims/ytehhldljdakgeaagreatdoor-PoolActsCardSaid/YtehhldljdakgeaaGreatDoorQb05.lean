/- Lemmas. -/
import Derived.Test.YtehhldljdakgeaaGreatDoorQb01
import Derived.Test.YtehhldljdakgeaaGreatDoorQb04
set_option linter.unusedSimpArgs false
set_option linter.unusedVariables false
set_option maxHeartbeats 16000000
set_option maxRecDepth 100000
namespace Go.Proofs.YtehhldljdakgeaaGreatDoor
open Go.RowKit Go.Maps Go.Proofs.Tryz
attribute [local go_sem ↓] aJ aK
def ints (xs:List Int):List Value:=xs.map (Value.int .i64)
theorem lV (xs:List Int):(ints xs).length=xs.length:=by simp[ints]
theorem PW {xs:List Int} {j:Nat} {x:Int} (h:xs[j]?=some x):(ints xs)[j]?=some (.int .i64 x):=by simp[ints,h]
theorem pO (xs:List Int): ∀u∈ints xs,u.oneCell'=true:=by
 intro u hu;simp only[ints,bC] at hu;obtain⟨x,_,rfl⟩:=hu;rfl
theorem nO.int {X:List Nat} {w:World} {v:Value} {xs:List Int} (h:nO X w v (ints xs)): ∃p cap,v= .slice p xs.length cap∧xs.length≤cap∧cap≤maxLen∧∀j x,xs[j]?=some x→∃g off,p=some ⟨g,off,none⟩∧g∉X∧g<w.heap.size∧w.cell? ⟨g,off+j,none⟩=some (.int .i64 x):=by
 obtain⟨p,cap,h1,h2,h3,h4⟩:=h;rw[lV] at h1 h2;exact⟨p,cap,h1,h2,h3,fun j x hj=>h4 j _ (PW hj)⟩
def CZ (X:List Nat) (w:World) (vN:Value) (N:List (List Int)):Prop:=∃us:List Value,us.length=N.length∧nO X w vN us∧∀(j:Nat) (u:Value) (xs:List Int),us[j]?=some u→N[j]?=some xs→nO X w u (ints xs)
theorem CZ.form {X:List Nat} {w:World} {v:Value} {N:List (List Int)} (h:CZ X w v N): ∃p cap,v= .slice p N.length cap∧N.length≤cap∧cap≤maxLen∧∀j xs,N[j]?=some xs→∃g off u,p=some ⟨g,off,none⟩∧g∉X∧g<w.heap.size∧w.cell? ⟨g,off+j,none⟩=some u∧nO X w u (ints xs):=by
 obtain⟨us,hl,⟨p,cap,h1,h2,h3,h4⟩,h5⟩:=h;rw[hl] at h1 h2;refine⟨p,cap,h1,h2,h3,fun j xs hj=> ?_⟩;have hjl:j<us.length:=by rw[hl];exact(au.1 hj).1
 obtain⟨u,hu⟩: ∃u,us[j]?=some u:=⟨us[j],aA _⟩;obtain⟨g,off,e1,e2,e3,e4⟩:=h4 j u hu;exact⟨g,off,u,e1,e2,e3,e4,h5 j u xs hu hj⟩
theorem CZ.keep {X S:List Nat} {w w':World} {v:Value} {N:List (List Int)} (h:CZ X w v N) (k:Keep S w w') (hs: ∀s∈S,s∈X∨w.heap.size≤s):CZ X w' v N:=by
 obtain⟨us,hl,h1,h2⟩:=h;exact⟨us,hl,h1.keep k hs,fun j u xs hu hx=>(h2 j u xs hu hx).keep k hs⟩
theorem CZ.below {X:List Nat} {w w':World} {v:Value} {N:List (List Int)} (h:CZ X w v N) (k:Below w.heap.size w w'):CZ X w' v N:=h.keep (Keep.of (S:=[]) k) (fun _ q=>by cases q)
theorem CZ.more {X Y:List Nat} {w:World} {v:Value} {N:List (List Int)} (h:CZ X w v N) (hY: ∀y∈Y,y∈X∨w.heap.size≤y):CZ Y w v N:=by
 obtain⟨us,hl,h1,h2⟩:=h;exact⟨us,hl,h1.more hY,fun j u xs hu hx=>(h2 j u xs hu hx).more hY⟩
theorem tF {α:Type} {p:α→Bool} {xs:List α} {j:Nat} {x:α} (h:xs[j]?=some x):(xs.take (j+1)).any p=((xs.take j).any p||p x):=by
 rw[bR,h];simp
theorem u7 {α:Type} {p:α→Bool} {xs:List α} {j:Nat} (h:(xs.take j).any p=true):xs.any p=true:=by
 rw[fA] at h ⊢;obtain⟨x,h1,h2⟩:=h;exact⟨x,fD h1,h2⟩
def inPg (k:Int):Bool:=decide (1≤k∧k≤256)
def inFar (k:Int):Bool:=decide (0≤k∧k≤1000)
def yG (k:Int):Bool:=decide (k<1∨256<k)
def rV (k:Int):Bool:=decide (k<0∨1000<k)
theorem pg_any (k:Int) (w:World):Calls prog 148 #[.int .i64 k] w fun e w'=>e= .returned (.bool (yG k))∧Below w.heap.size w w':=by
 by_cases h1:k<1
 ·have e:(yG k)=true:=by unfold yG;simp;omega
  rw[e];go_in
  go_wp2;go_ret;exact⟨sI,jY⟩
 ·by_cases h2:256<k
  ·have e:(yG k)=true:=by unfold yG;simp;omega
   rw[e];go_in
   go_wp2;go_ret;exact⟨sI,jY⟩
  ·have e:(yG k)=false:=by unfold yG;simp;omega
   rw[e];go_in
   go_wp2;go_ret;exact⟨sI,jY⟩
theorem far_any (k:Int) (w:World):Calls prog 149 #[.int .i64 k] w fun e w'=>e= .returned (.bool (rV k))∧Below w.heap.size w w':=by
 by_cases h1:k<0
 ·have e:(rV k)=true:=by unfold rV;simp;omega
  rw[e];go_in
  go_wp2;go_ret;exact⟨sI,jY⟩
 ·by_cases h2:1000<k
  ·have e:(rV k)=true:=by unfold rV;simp;omega
   rw[e];go_in
   go_wp2;go_ret;exact⟨sI,jY⟩
  ·have e:(rV k)=false:=by unfold rV;simp;omega
   rw[e];go_in
   go_wp2;go_ret;exact⟨sI,jY⟩
def rE (n:Int) (l:List Int):Bool:=decide ((l.length:Int)≠n)
theorem UM (v:Value) (l:List Int) (n:Int) (c:Nat) (w:World) (X:List Nat) (h:nO X w v (ints l)) (hc:w.cell? ⟨c,0,none⟩=some (.int .i64 n)) (hl:c<w.heap.size):
 Calls prog 119 #[v,.pointer (some ⟨c,0,none⟩)] w fun e w'=>e= .returned (.bool (rE n l))∧Below w.heap.size w w':=by
 obtain⟨p,cap,rfl,h1,h2,_⟩:=h.int;unfold maxLen at h2;clear h;by_cases e:(l.length:Int)=n
 ·have e1:rE n l=false:=by unfold rE;simpa using e
  have e2:((l.length:Int) !=n)=false:=by simpa using e
  rw[e1];clear e e1;go_in
  go_wp2;go_ret;exact⟨sI,jY⟩
 ·have e1:rE n l=true:=by unfold rE;simpa using e
  have e2:((l.length:Int) !=n)=true:=by simpa using e
  rw[e1];clear e e1;go_in
  go_wp2;go_ret;exact⟨sI,jY⟩
def Bu (o:Int) (x:Int×Int):Bool:=decide (o≤x.2)
theorem UN (a k o:Int) (c:Nat) (w:World) (hc:w.cell? ⟨c,0,none⟩=some (.int .i64 o)) (hl:c<w.heap.size):
 Calls prog 165 #[.agg #[.int .i64 a,.int .i64 k],.pointer (some ⟨c,0,none⟩)] w fun e w'=>e= .returned (.bool (Bu o (a,k)))∧Below w.heap.size w w':=by
 unfold Bu;go_in
 go_wp2;go_ret;exact⟨rfl,jY⟩
theorem pg_idx (X:List Nat) (v:Value) (xs:List Int) (w:World) (h:nO X w v (ints xs)):
 Calls prog 183 #[v,.func (.func 148) #[] #[]] w fun e w'=>∃r:Int,e= .returned (.int .i64 r)∧Hid (decide (0≤r)=xs.any yG)∧Below w.heap.size w w':=by
 obtain⟨p,cap,rfl,hcap,hmx,hc⟩:=h.int;unfold maxLen at hmx;have C:=ah hc;clear hc h;obtain⟨n,hn⟩:=eY xs.length;rw[←hn] at hcap ⊢;have HN:=ah hn;clear hn;go_in
 go_wp2_with fail;go_loopw [5,8] (fun _ iv wr=>∃j:Nat,j≤n∧iv= .int .i64 j∧Hid ((xs.take j).any yG=false)∧Below w.heap.size w wr) (fun _ iv _=>n-(intOf iv).toNat);case atStart=>exact⟨0,bq _,rfl,(show _=_ by simp),aL _ _⟩
 case round=>
  obtain⟨j,hj,rfl,hall,hbel⟩:=hrel;have zr:=hbel.size;by_cases hjn:j<n
  ·obtain⟨x,hx⟩: ∃x,xs[j]?=some x:=⟨xs[j]'(by rw[←HN.out];exact hjn),aA _⟩
   have hsn:=tF (p:=yG) hx;rw[hall.out,gu] at hsn;have SN:=ah hsn;clear hsn;obtain⟨g,off,rfl,_,hg,hc⟩:=C.out j x hx;have r1:=(hbel.cell (p:=⟨g,off+j,none⟩) hg).trans hc;have gr:g<wr.heap.size:=om;have CL:=pg_any x wr;clear hc hx;cases hq:yG x with
   |true=>
    have hr:Hid (xs.any yG=true):=u7 (SN.out.trans hq);rw[hq] at CL;have CL':=ah CL;clear hq CL SN;go_wp2_with fail;refine CL'.out.mono ?_;rintro e w1 ⟨rfl,hb1⟩;go_wp2;go_ret;exact⟨(j:Int),rfl,(show _=_ by rw[hr.out];simp),hbel.trans (hb1.mono zr)⟩
   |false=>
    have hr:Hid ((xs.take (j+1)).any yG=false):=SN.out.trans hq;rw[hq] at CL;have CL':=ah CL;clear hq CL SN;go_wp2_with fail;refine CL'.out.mono ?_;rintro e w1 ⟨rfl,hb1⟩;go_wp2;go_roundw;case rel=>exact⟨j+1,om,by go_num,hr,hbel.trans (hb1.mono zr)⟩
    case measure=>simp[intOf];omega
  ·have ej:j=n:=by omega
   have hr:Hid (xs.any yG=false):=by have:=hall.out;rwa [ej,HN.out,bU] at this
   clear ej hall;go_wp2;go_ret;exact⟨-1,rfl,(show _=_ by rw[hr.out];rfl),hbel⟩
theorem pg_has (X:List Nat) (v:Value) (xs:List Int) (w:World) (h:nO X w v (ints xs)):
 Calls prog 147 #[v,.func (.func 148) #[] #[]] w fun e w'=>e= .returned (.bool (xs.any yG))∧Below w.heap.size w w':=by
 have I:=ah (pg_idx X v xs w h);obtain⟨p,cap,rfl,_⟩:=h.int;go_in
 go_wp2_with fail;refine I.out.mono ?_;rintro e w1 ⟨r,rfl,hr,hb1⟩;go_wp2;go_ret;exact⟨by rw[←hr.out];rfl,hb1⟩
theorem far_idx (X:List Nat) (v:Value) (xs:List Int) (w:World) (h:nO X w v (ints xs)):
 Calls prog 183 #[v,.func (.func 149) #[] #[]] w fun e w'=>∃r:Int,e= .returned (.int .i64 r)∧Hid (decide (0≤r)=xs.any rV)∧Below w.heap.size w w':=by
 obtain⟨p,cap,rfl,hcap,hmx,hc⟩:=h.int;unfold maxLen at hmx;have C:=ah hc;clear hc h;obtain⟨n,hn⟩:=eY xs.length;rw[←hn] at hcap ⊢;have HN:=ah hn;clear hn;go_in
 go_wp2_with fail;go_loopw [5,8] (fun _ iv wr=>∃j:Nat,j≤n∧iv= .int .i64 j∧Hid ((xs.take j).any rV=false)∧Below w.heap.size w wr) (fun _ iv _=>n-(intOf iv).toNat);case atStart=>exact⟨0,bq _,rfl,(show _=_ by simp),aL _ _⟩
 case round=>
  obtain⟨j,hj,rfl,hall,hbel⟩:=hrel;have zr:=hbel.size;by_cases hjn:j<n
  ·obtain⟨x,hx⟩: ∃x,xs[j]?=some x:=⟨xs[j]'(by rw[←HN.out];exact hjn),aA _⟩
   have hsn:=tF (p:=rV) hx;rw[hall.out,gu] at hsn;have SN:=ah hsn;clear hsn;obtain⟨g,off,rfl,_,hg,hc⟩:=C.out j x hx;have r1:=(hbel.cell (p:=⟨g,off+j,none⟩) hg).trans hc;have gr:g<wr.heap.size:=om;have CL:=far_any x wr;clear hc hx;cases hq:rV x with
   |true=>
    have hr:Hid (xs.any rV=true):=u7 (SN.out.trans hq);rw[hq] at CL;have CL':=ah CL;clear hq CL SN;go_wp2_with fail;refine CL'.out.mono ?_;rintro e w1 ⟨rfl,hb1⟩;go_wp2;go_ret;exact⟨(j:Int),rfl,(show _=_ by rw[hr.out];simp),hbel.trans (hb1.mono zr)⟩
   |false=>
    have hr:Hid ((xs.take (j+1)).any rV=false):=SN.out.trans hq;rw[hq] at CL;have CL':=ah CL;clear hq CL SN;go_wp2_with fail;refine CL'.out.mono ?_;rintro e w1 ⟨rfl,hb1⟩;go_wp2;go_roundw;case rel=>exact⟨j+1,om,by go_num,hr,hbel.trans (hb1.mono zr)⟩
    case measure=>simp[intOf];omega
  ·have ej:j=n:=by omega
   have hr:Hid (xs.any rV=false):=by have:=hall.out;rwa [ej,HN.out,bU] at this
   clear ej hall;go_wp2;go_ret;exact⟨-1,rfl,(show _=_ by rw[hr.out];rfl),hbel⟩
theorem far_has (X:List Nat) (v:Value) (xs:List Int) (w:World) (h:nO X w v (ints xs)):
 Calls prog 147 #[v,.func (.func 149) #[] #[]] w fun e w'=>e= .returned (.bool (xs.any rV))∧Below w.heap.size w w':=by
 have I:=ah (far_idx X v xs w h);obtain⟨p,cap,rfl,_⟩:=h.int;go_in
 go_wp2_with fail;refine I.out.mono ?_;rintro e w1 ⟨r,rfl,hr,hb1⟩;go_wp2;go_ret;exact⟨by rw[←hr.out];rfl,hb1⟩
theorem UO (X:List Nat) (v:Value) (N:List (List Int)) (m:Int) (c:Nat) (w:World) (h:CZ X w v N) (hcc:w.cell? ⟨c,0,none⟩=some (.int .i64 m)) (hcl:c<w.heap.size):
 Calls prog 150 #[v,.func (.func 119) #[] #[.pointer (some ⟨c,0,none⟩)]] w fun e w'=>∃r:Int,e= .returned (.int .i64 r)∧Hid (decide (0≤r)=N.any (rE m))∧Below w.heap.size w w':=by
 obtain⟨p,cap,rfl,hcap,hmx,hc⟩:=h.form;unfold maxLen at hmx;have C:=ah hc;clear hc h;obtain⟨n,hn⟩:=eY N.length;rw[←hn] at hcap ⊢;have HN:=ah hn;clear hn;go_in
 go_wp2_with fail;go_loopw [5,8] (fun _ iv wr=>∃j:Nat,j≤n∧iv= .int .i64 j∧Hid ((N.take j).any (rE m)=false)∧Below w.heap.size w wr) (fun _ iv _=>n-(intOf iv).toNat);case atStart=>exact⟨0,bq _,rfl,(show _=_ by simp),aL _ _⟩
 case round=>
  obtain⟨j,hj,rfl,hall,hbel⟩:=hrel;have zr:=hbel.size;by_cases hjn:j<n
  ·obtain⟨x,hx⟩: ∃x,N[j]?=some x:=⟨N[j]'(by rw[←HN.out];exact hjn),aA _⟩
   have hsn:=tF (p:=(rE m)) hx;rw[hall.out,gu] at hsn;have SN:=ah hsn;clear hsn;obtain⟨g,off,u,rfl,_,hg,hc,hu⟩:=C.out j x hx;have r1:=(hbel.cell (p:=⟨g,off+j,none⟩) hg).trans hc;have gr:g<wr.heap.size:=om;have rc:=(hbel.cell (p:=⟨c,0,none⟩) hcl).trans hcc;have CL:=UM u x m c wr X (hu.below hbel) rc om;obtain⟨q,k,rfl,_⟩:=hu.int;clear hc hx;cases hq:(rE m) x with
   |true=>
    have hr:Hid (N.any (rE m)=true):=u7 (SN.out.trans hq);rw[hq] at CL;have CL':=ah CL;clear hq CL SN;go_wp2_with fail;refine CL'.out.mono ?_;rintro e w1 ⟨rfl,hb1⟩;go_wp2;go_ret;exact⟨(j:Int),rfl,(show _=_ by rw[hr.out];simp),hbel.trans (hb1.mono zr)⟩
   |false=>
    have hr:Hid ((N.take (j+1)).any (rE m)=false):=SN.out.trans hq;rw[hq] at CL;have CL':=ah CL;clear hq CL SN;go_wp2_with fail;refine CL'.out.mono ?_;rintro e w1 ⟨rfl,hb1⟩;go_wp2;go_roundw;case rel=>exact⟨j+1,om,by go_num,hr,hbel.trans (hb1.mono zr)⟩
    case measure=>simp[intOf];omega
  ·have ej:j=n:=by omega
   have hr:Hid (N.any (rE m)=false):=by have:=hall.out;rwa [ej,HN.out,bU] at this
   clear ej hall;go_wp2;go_ret;exact⟨-1,rfl,(show _=_ by rw[hr.out];rfl),hbel⟩
theorem GL (X:List Nat) (v:Value) (N:List (List Int)) (m:Int) (c:Nat) (w:World) (h:CZ X w v N) (hcc:w.cell? ⟨c,0,none⟩=some (.int .i64 m)) (hcl:c<w.heap.size):
 Calls prog 118 #[v,.func (.func 119) #[] #[.pointer (some ⟨c,0,none⟩)]] w fun e w'=>e= .returned (.bool (N.any (rE m)))∧Below w.heap.size w w':=by
 have I:=ah (UO X v N m c w h hcc hcl);obtain⟨p,cap,rfl,_⟩:=h.form;go_in
 go_wp2_with fail;refine I.out.mono ?_;rintro e w1 ⟨r,rfl,hr,hb1⟩;go_wp2;go_ret;exact⟨by rw[←hr.out];rfl,hb1⟩
theorem UQ (v:Value) (F:List (Int×Int)) (m:Int) (c:Nat) (w:World) (h:Jb 0 w v F) (hcc:w.cell? ⟨c,0,none⟩=some (.int .i64 m)) (hcl:c<w.heap.size):
 Calls prog 195 #[v,.func (.func 165) #[] #[.pointer (some ⟨c,0,none⟩)]] w fun e w'=>∃r:Int,e= .returned (.int .i64 r)∧Hid (decide (0≤r)=F.any (Bu m))∧Below w.heap.size w w':=by
 have h': ∃p cap,v= .slice p F.length cap∧F.length≤cap∧cap≤maxLen∧Hid (∀j a k,F[j]?=some (a,k)→∃g,p=some ⟨g,0,none⟩∧g<w.heap.size∧w.cell? ⟨g,j*2,none⟩=some (.int .i64 a)∧w.cell? ⟨g,j*2+1,none⟩=some (.int .i64 k)):=by
  rcases h with⟨rfl,rfl⟩|⟨g,cap,rfl,q1,q2,_,hg,hc⟩
  ·exact⟨none,0,rfl,aI _,bq _,fun j a k hj=>by simp at hj⟩
  ·exact⟨_,cap,rfl,q1,q2,fun j a k hj=>⟨g,rfl,hg,hc j a k hj⟩⟩
 obtain⟨p,cap,rfl,hcap,hmx,C⟩:=h';unfold maxLen at hmx;clear h;obtain⟨n,hn⟩:=eY F.length;rw[←hn] at hcap ⊢;have HN:=ah hn;clear hn;go_in
 go_wp2_with fail;go_loopw [5,8] (fun _ iv wr=>∃j:Nat,j≤n∧iv= .int .i64 j∧Hid ((F.take j).any (Bu m)=false)∧Below w.heap.size w wr) (fun _ iv _=>n-(intOf iv).toNat);case atStart=>exact⟨0,bq _,rfl,(show _=_ by simp),aL _ _⟩
 case round=>
  obtain⟨j,hj,rfl,hall,hbel⟩:=hrel;have zr:=hbel.size;by_cases hjn:j<n
  ·obtain⟨x,hx⟩: ∃x,F[j]?=some x:=⟨F[j]'(by rw[←HN.out];exact hjn),aA _⟩
   have hsn:=tF (p:=(Bu m)) hx;rw[hall.out,gu] at hsn;have SN:=ah hsn;clear hsn;obtain⟨a,k⟩:=x;obtain⟨g,rfl,hg,hc1,hc2⟩:=C.out j a k hx;have r1:=(hbel.cell (p:=⟨g,j*2,none⟩) hg).trans hc1;have r2:=(hbel.cell (p:=⟨g,j*2+1,none⟩) hg).trans hc2;have gr:g<wr.heap.size:=om;have rc:=(hbel.cell (p:=⟨c,0,none⟩) hcl).trans hcc;have CL:=UN a k m c wr rc om;clear hc1 hc2 hx;cases hq:(Bu m) (a,k) with
   |true=>
    have hr:Hid (F.any (Bu m)=true):=u7 (SN.out.trans hq);rw[hq] at CL;have CL':=ah CL;clear hq CL SN;go_wp2_with fail;refine CL'.out.mono ?_;rintro e w1 ⟨rfl,hb1⟩;go_wp2;go_ret;exact⟨(j:Int),rfl,(show _=_ by rw[hr.out];simp),hbel.trans (hb1.mono zr)⟩
   |false=>
    have hr:Hid ((F.take (j+1)).any (Bu m)=false):=SN.out.trans hq;rw[hq] at CL;have CL':=ah CL;clear hq CL SN;go_wp2_with fail;refine CL'.out.mono ?_;rintro e w1 ⟨rfl,hb1⟩;go_wp2;go_roundw;case rel=>exact⟨j+1,om,by go_num,hr,hbel.trans (hb1.mono zr)⟩
    case measure=>simp[intOf];omega
  ·have ej:j=n:=by omega
   have hr:Hid (F.any (Bu m)=false):=by have:=hall.out;rwa [ej,HN.out,bU] at this
   clear ej hall;go_wp2;go_ret;exact⟨-1,rfl,(show _=_ by rw[hr.out];rfl),hbel⟩
theorem UR (v:Value) (F:List (Int×Int)) (m:Int) (c:Nat) (w:World) (h:Jb 0 w v F) (hcc:w.cell? ⟨c,0,none⟩=some (.int .i64 m)) (hcl:c<w.heap.size):
 Calls prog 163 #[v,.func (.func 165) #[] #[.pointer (some ⟨c,0,none⟩)]] w fun e w'=>e= .returned (.bool (F.any (Bu m)))∧Below w.heap.size w w':=by
 have I:=ah (UQ v F m c w h hcc hcl);obtain⟨p,n,cap,rfl⟩: ∃p n cap,v= .slice p n cap:=by rcases h with⟨rfl,_⟩|⟨g,cap,rfl,_⟩;(·exact⟨_,_,_,rfl⟩);(·exact⟨_,_,_,rfl⟩)
 go_in
 go_wp2_with fail;refine I.out.mono ?_;rintro e w1 ⟨r,rfl,hr,hb1⟩;go_wp2;go_ret;exact⟨by rw[←hr.out];rfl,hb1⟩
structure Cfg (X:List Nat) (w:World) (vP vN:Value) (P:List Int) (N:List (List Int)):Prop where
 p:nO X w vP (ints P)
 n:CZ X w vN N
theorem Cfg.below {X:List Nat} {w w':World} {vP vN:Value} {P:List Int} {N:List (List Int)} (h:Cfg X w vP vN P N) (k:Below w.heap.size w w'):Cfg X w' vP vN P N:=⟨h.p.below k,h.n.below k⟩
theorem Cfg.keep {X S:List Nat} {w w':World} {vP vN:Value} {P:List Int} {N:List (List Int)} (h:Cfg X w vP vN P N) (k:Keep S w w') (hs: ∀s∈S,s∈X∨w.heap.size≤s):Cfg X w' vP vN P N:=⟨h.p.keep k hs,h.n.keep k hs⟩
def cfgL (vP vN:Value) (mn lw hi:Int):List Value:=[vP,vN,.int .i64 mn,.int .i64 lw,.int .i64 hi]
def wI (l:List Int):Bool:=l.any rV
def sZ (mn lw hi:Int):Bool:=decide (0≤mn)&&decide (mn≤lw)&&decide (lw≤hi)
def Aq (P:List Int) (N:List (List Int)) (mn lw hi:Int):Bool:=decide (1≤P.length)&&decide (P.length≤4)&& !(P.any yG)&& !(N.any wI)&&sZ mn lw hi
theorem Sn (X:List Nat) (vP vN:Value) (P:List Int) (N:List (List Int)) (mn lw hi:Int) (w:World) (h:Cfg X w vP vN P N):
 Calls prog 117 #[.agg #[vP,vN,.int .i64 mn,.int .i64 lw,.int .i64 hi]] w fun e w'=>e= .returned (.bool (Aq P N mn lw hi))∧Below w.heap.size w w':=by
 obtain⟨p,cap,rfl,hcp,hmx,_⟩:=h.p.int;unfold maxLen at hmx;by_cases h1:P.length<1
 ·have e:Aq P N mn lw hi=false:=by unfold Aq;simp;omega
  rw[e];have h1':(P.length:Int)<1:=om;clear e h h1;go_in
  go_wp2;go_ret;exact⟨rfl,jY⟩
 by_cases h2:4<P.length
 ·have e:Aq P N mn lw hi=false:=by unfold Aq;simp;omega
  rw[e];have h1': ¬(P.length:Int)<1:=om;have h2':(4:Int)<(P.length:Int):=om;clear e h h1 h2;go_in
  go_wp2;go_ret;exact⟨rfl,jY⟩
 have h1': ¬(P.length:Int)<1:=om;have h2': ¬(4:Int)<(P.length:Int):=om;have L0:=jR.new w [.slice p P.length cap,vN,.int .i64 mn,.int .i64 lw,.int .i64 hi] 103;have hb0:Below w.heap.size w (w.alloc (.cells [.slice p P.length cap,vN,.int .i64 mn,.int .i64 lw,.int .i64 hi].toArray 103)):=jY;have PG:=ah (pg_has X _ P _ (h.p.below hb0));have HN:=ah h.n;have eb:Aq P N mn lw hi=(!(P.any yG)&& !(N.any wI)&&sZ mn lw hi):=by
  unfold Aq;rw[dQt (show 1≤P.length by omega),dQt (show P.length≤4 by omega)];rfl
 rw[eb];clear eb h h1 h2;cases hq:P.any yG with
 |true=>
  rw[hq] at PG;clear hq;go_in
  go_wp2_with fail;refine PG.out.mono ?_;rintro e w1 ⟨rfl,hb1⟩;go_wp2;go_ret;exact⟨rfl,hb0.trans (hb1.mono sI)⟩
 |false=>
  rw[hq] at PG;clear hq;go_in
  go_wp2_with fail;refine PG.out.mono ?_;rintro e w1 ⟨rfl,hb1⟩;have L1:=ah (L0.go hb1);have K1:Below w.heap.size w w1:=hb0.trans (hb1.mono sI);have RN:=HN.out.below K1;obtain⟨q,k,rfl,hck,hkm,hc⟩:=RN.form;unfold maxLen at hkm;have C:=ah hc;have l1:=L1.out.gC 1;have ll:=L1.out.lt;obtain⟨n,hn⟩:=eY N.length;rw[←hn] at hck l1 L1 ⊢;have HL:=ah hn;clear hn PG L0 RN hc hb0 hb1;go_wp2_with fail;go_loopw [23] (fun iv wr=>∃j:Nat,j≤n∧iv= .int .i64 j∧Hid ((N.take j).any wI=false)∧Below w1.heap.size w1 wr) (fun iv _=>n-(intOf iv).toNat);case atStart=>exact⟨0,bq _,by go_num,(show _=_ by simp),aL _ _⟩
  case round=>
   obtain⟨j,hj,rfl,hall,hbel⟩:=hrel;have zr:=hbel.size;have zz:=K1.size;by_cases hjn:j<n
   ·obtain⟨x,hx⟩: ∃x,N[j]?=some x:=⟨N[j]'(by rw[←HL.out];exact hjn),aA _⟩
    have hsn:=tF (p:=wI) hx;rw[hall.out,gu] at hsn;have SN:=ah hsn;clear hsn;obtain⟨g,off,u,rfl,_,hg,hc,hu⟩:=C.out j x hx;have r1:=(hbel.cell (p:=⟨g,off+j,none⟩) hg).trans hc;have gr:g<wr.heap.size:=om;have CL:=far_has X u x wr (hu.below hbel);obtain⟨q,k,rfl,_⟩:=hu.int;clear hc hx;cases hq:wI x with
    |true=>
     have hr:Hid (N.any wI=true):=u7 (SN.out.trans hq);rw[show x.any rV=true from hq] at CL;have CL':=ah CL;clear hq CL SN;go_wp2_with fail;refine CL'.out.mono ?_;rintro e w2 ⟨rfl,hb2⟩;go_wp2;go_ret;exact⟨by rw[hr.out];simp,K1.trans ((hbel.trans (hb2.mono zr)).mono zz)⟩
    |false=>
     have hr:Hid ((N.take (j+1)).any wI=false):=SN.out.trans hq;rw[show x.any rV=false from hq] at CL;have CL':=ah CL;clear hq CL SN;go_wp2_with fail;refine CL'.out.mono ?_;rintro e w2 ⟨rfl,hb2⟩;go_wp2;go_roundw;case rel=>exact⟨j+1,om,by go_num,hr,hbel.trans (hb2.mono zr)⟩
     case measure=>simp[intOf];omega
   ·have ej:j=n:=by omega
    have hr:Hid (N.any wI=false):=by have:=hall.out;rwa [ej,HL.out,bU] at this
    have L2:=L1.out.go hbel;have m0:=L2.gC 2;have m1:=L2.gC 3;have m2:=L2.gC 4;have ml:=L2.lt;have K2:=ah (K1.trans (hbel.mono zz));clear ej hall L2 L1 C HN;by_cases a1:0≤mn
    ·by_cases a2:mn≤lw
     ·have fin:Hid (sZ mn lw hi=decide (lw≤hi)):=show _=_ by unfold sZ;simp[a1,a2]
      go_wp2;go_ret;exact⟨by rw[hr.out,fin.out];simp,K2.out⟩
     ·have fin:Hid (sZ mn lw hi=false):=show _=_ by unfold sZ;simp[a1,a2]
      have a2':decide (mn≤lw)=false:=dQf a2;go_wp2;go_ret;exact⟨by rw[hr.out,fin.out];simp,K2.out⟩
    ·have fin:Hid (sZ mn lw hi=false):=show _=_ by unfold sZ;simp[a1]
     have a1':decide (0≤mn)=false:=dQf a1;go_wp2;go_ret;exact⟨by rw[hr.out,fin.out];simp,K2.out⟩
def sqC (P:List Int) (N:List (List Int)):Bool:=decide (N.length=P.length)&& !(N.any (rE P.length))
def PX (i:Nat) (l:List Int) (j:Nat):Bool:=decide (i≠j)&&decide (l.getD j 0≤l.getD i 0)
def GQ (i:Nat) (l:List Int):Bool:=(List.range l.length).any (PX i l)
def Ag (N:List (List Int)) (i:Nat):Bool:=GQ i (N.getD i [])
def Jq (N:List (List Int)):Bool:=(List.range N.length).any (Ag N)
def uF (P:List Int) (N:List (List Int)) (mn lw hi:Int):Nat:=if Aq P N mn lw hi=false then 2 else if sqC P N&& !Jq N then 0 else 3
def codeN (b:Bool):Nat:=if b then 3 else 0
theorem xB (f:Nat→Bool) (j:Nat):(List.range (j+1)).any f=((List.range j).any f||f j):=by rw[jJ,List.any_append];simp
theorem Ar {f:Nat→Bool} {j n:Nat} (hj:j<n) (h:f j=true):(List.range n).any f=true:=fA.2 ⟨j,fM.2 hj,h⟩
theorem zF {α:Type} {l:List α} {j:Nat} {x d:α} (h:l[j]?=some x):l.getD j d=x:=by rw[dQ,h];rfl
theorem GR {B:Nat} {ev:Nat→Addr} (X:List Nat) (vP vN:Value) (P:List Int) (N:List (List Int)) (mn lw hi:Int) (w:World) (hE:Ap B ev w) (h:Cfg X w vP vN P N):
 Calls prog 89 #[.agg #[vP,vN,.int .i64 mn,.int .i64 lw,.int .i64 hi]] w fun e w'=>e= .returned (kM ev (uF P N mn lw hi))∧Below w.heap.size w w':=by
 have hB:=hE.size;obtain⟨p,cap,rfl,hcp,hmx,_⟩:=h.p.int;obtain⟨q,k,rfl,hck,hkm,hc⟩:=h.n.form;have C:=ah hc;unfold maxLen at hmx hkm;have L0:=jR.new w [.slice p P.length cap,.slice q N.length k,.int .i64 mn,.int .i64 lw,.int .i64 hi] 103;have hb0:Below w.heap.size w (w.alloc (.cells [.slice p P.length cap,.slice q N.length k,.int .i64 mn,.int .i64 lw,.int .i64 hi].toArray 103)):=jY;have BD:=ah (Sn X _ _ P N mn lw hi _ (h.below hb0));have HH:=ah h;clear hc h;cases hq:Aq P N mn lw hi with
 |false=>
  have ce:uF P N mn lw hi=2:=by unfold uF;rw[if_pos hq]
  rw[ce];rw[hq] at BD;clear hq ce C;go_in
  go_wp2_with fail;refine BD.out.mono ?_;rintro e w1 ⟨rfl,hb1⟩;have hE1:=hE.below ((hb0.trans (hb1.mono sI)).mono hB);have e1:=hE1.c2;have e2:=hE1.z2;go_wp2;go_ret;exact⟨rfl,hb0.trans (hb1.mono sI)⟩
 |true=>
  rw[hq] at BD;have ce0:uF P N mn lw hi=if sqC P N&& !Jq N then 0 else 3:=by unfold uF;rw[if_neg (by rw[hq];simp)]
  rw[ce0];have hP4:P.length≤4:=by
   unfold Aq at hq;simp at hq;omega
  clear hq ce0;by_cases hl:N.length=P.length
  ·have hl1:((N.length:Int) !=(P.length:Int))=false:=bne_eq_false_iff_eq.2 om
   cases hq:N.any (rE P.length) with
   |true=>
    have ce:(if sqC P N&& !Jq N then 0 else 3)=3:=by unfold sqC;rw[hq];simp
    rw[ce];clear ce hl;go_in
    go_wp2_with fail;refine BD.out.mono ?_;rintro e w1 ⟨rfl,hb1⟩;have K1:Below w.heap.size w w1:=hb0.trans (hb1.mono sI);have L1:=L0.go hb1;have l0:=L1.gC 0;have l1:=L1.gC 1;have ll:=L1.lt;have z1:=K1.size;have LQ:=GL X (.slice q N.length k) N P.length w1.heap.size (w1.alloc (.cells #[.int .i64 P.length] 3)) ((HH.out.below K1).n.below jY) (by rw[bE _ _ _ _ sI];rfl) sI;rw[hq] at LQ;have LQ':=ah LQ;clear hq LQ BD L1 L0;go_wp2_with fail;refine LQ'.out.mono ?_;rintro e w2 ⟨rfl,hb2⟩;have K2:Below w.heap.size w w2:=fG (K1.alloc z1 _) (hb2.mono (by simp;omega));have hE2:=hE.below (K2.mono hB);have e1:=hE2.c3;have e2:=hE2.z3;go_wp2;go_ret;exact⟨rfl,K2⟩
   |false=>
    have ce:(if sqC P N&& !Jq N then 0 else 3)=codeN (Jq N):=by
     unfold sqC;rw[hq,dQt hl];cases Jq N<;>rfl
    rw[ce];have hsq:Hid (∀(j:Nat) (l:List Int),N[j]?=some l→l.length=P.length):=fun j l hj=>by
     have:=iJ.1 hq l (aF hj);unfold rE at this;simp at this;omega
    obtain⟨n,hn⟩:=eY N.length;have hn4:n≤4:=om;have LQh:Hid (∀w' c,CZ X w' (.slice q n k) N→w'.cell? ⟨c,0,none⟩=some (.int .i64 P.length)→c<w'.heap.size→Calls prog 118 #[.slice q n k,.func (.func 119) #[] #[.pointer (some ⟨c,0,none⟩)]] w' fun e w''=>e= .returned (.bool false)∧Below w'.heap.size w' w''):=fun w' c r1 r2 r3=>by
     have:=GL X (.slice q n k) N P.length c w' r1 r2 r3;rwa [hq] at this
    rw[←hn] at hl1 hck HH L0 BD hb0 ⊢;have HN:=ah hn;have hln:Hid (n=P.length):=show _=_ by omega
    clear ce hl hq hn;go_in
    go_wp2_with fail;refine BD.out.mono ?_;rintro e w1 ⟨rfl,hb1⟩;have K1:Below w.heap.size w w1:=hb0.trans (hb1.mono sI);have L1:=L0.go hb1;have l0:=L1.gC 0;have l1:=L1.gC 1;have ll:=L1.lt;have z1:=K1.size;have LQ:=ah (LQh.out (w1.alloc (.cells #[.int .i64 P.length] 3)) w1.heap.size ((HH.out.below K1).n.below jY) (by rw[bE _ _ _ _ sI];rfl) sI);have HL1:=ah L1;clear LQh BD L0 L1;go_wp2_with fail;refine LQ.out.mono ?_;rintro e w2 ⟨rfl,hb2⟩;have K2:Below w.heap.size w w2:=fG (K1.alloc z1 _) (hb2.mono (by simp;omega));have hE2:=hE.below (K2.mono hB);have e1:=hE2.c3;have e2:=hE2.z3;have L2:=(HL1.out.below (w':=w2) (n:=w1.heap.size) (fG jY (hb2.mono sI)) HL1.out.lt);have m1:=L2.gC 1;have ml:=L2.lt;have z2:=K2.size;clear LQ HL1 L2 l0 l1 ll;go_wp2_with fail;go_loop [30] (fun iv=>∃i:Nat,i≤n∧iv= .int .i64 i∧Hid ((List.range i).any (Ag N)=false)) (fun iv=>n-(intOf iv).toNat)
    case atStart=>exact⟨0,bq _,by go_num,(show _=_ by simp)⟩
    case round=>
     obtain⟨i,hi,rfl,hall⟩:=hrel;by_cases hin:i<n
     ·obtain⟨l,hx⟩: ∃x,N[i]?=some x:=⟨N[i]'(by rw[←HN.out];exact hin),aA _⟩
      have hsn:=xB (Ag N) i;rw[hall.out,gu] at hsn;have hbr:Ag N i=GQ i l:=by unfold Ag;rw[zF hx]
      rw[hbr] at hsn;have SN:=ah hsn;have BR:=ah hbr;obtain⟨g,off,u,rfl,_,hg,hc,hu⟩:=C.out i l hx;have r1:=(K2.cell (p:=⟨g,off+i,none⟩) hg).trans hc;have gr:g<w2.heap.size:=om;have hll:=hsq.out i l hx;rw[←hln.out] at hll;obtain⟨q',k',rfl,hk1,hk2,hcl⟩:=hu.int;rw[hll] at hk1;unfold maxLen at hk2;have CL:=ah hcl;have HLL:=ah hll;obtain⟨vi,hvi⟩: ∃x,l[i]?=some x:=⟨l[i]'(by rw[hll];exact hin),aA _⟩;obtain⟨g',off',rfl,_,hg',hci⟩:=CL.out i vi hvi;have r2:=(K2.cell (p:=⟨g',off'+i,none⟩) hg').trans hci;have gr':g'<w2.heap.size:=om;have HVI:=ah (zF (d:=(0:Int)) hvi);rw[hll] at r1;clear hc hx hu hcl hci hvi hll hsn hbr;go_wp2_with fail;go_loop [37] (fun jv=>∃j:Nat,j≤n∧jv= .int .i64 j∧Hid ((List.range j).any (PX i l)=false)) (fun jv=>n-(intOf jv).toNat)
      case atStart=>exact⟨0,bq _,by go_num,(show _=_ by simp)⟩
      case round=>
       obtain⟨j,hj,rfl,hal2⟩:=hrel;by_cases hjn:j<n
       ·obtain⟨vj,hvj⟩: ∃x,l[j]?=some x:=⟨l[j]'(by rw[HLL.out];exact hjn),aA _⟩
        obtain⟨g2,off2,e2',_,hg2,hcj⟩:=CL.out j vj hvj;have:g2=g'∧off2=off':=by injection e2' with e2';injection e2' with a b;exact⟨a.symm,b.symm⟩
        obtain⟨rfl,rfl⟩:=this;have r3:=(K2.cell (p:=⟨g2,off2+j,none⟩) hg2).trans hcj;have hsn:=xB (PX i l) j;rw[hal2.out,gu] at hsn;have ebj:PX i l j=(decide (i≠j)&&decide (vj≤vi)):=by unfold PX;rw[zF hvj,HVI.out]
        rw[ebj] at hsn;have SJ:=ah hsn;have EBJ:=ah ebj;clear hvj hcj e2' hsn ebj;by_cases eij:i=j
        ·have d1:((i:Int) !=(j:Int))=false:=bne_eq_false_iff_eq.2 om
         have hr:Hid ((List.range (j+1)).any (PX i l)=false):=by have:=SJ.out;rwa [dQf (by simpa using eij),Bool.false_and] at this
         clear eij;go_wp2;go_round
         case rel=>exact⟨j+1,om,by go_num,hr⟩
         case measure=>simp[intOf];omega
        ·have d1:((i:Int) !=(j:Int))=true:=bne_iff_ne.2 om
         by_cases hv:vj≤vi
         ·have hbad:Hid (Jq N=true):=Ar (j:=i) (by rw[←HN.out];omega) (BR.out.trans (Ar (j:=j) (by rw[HLL.out];exact hjn) (EBJ.out.trans (by simp[eij,hv]))))
          clear eij;go_wp2;go_ret;exact⟨by rw[hbad.out];rfl,K2⟩
         ·have hr:Hid ((List.range (j+1)).any (PX i l)=false):=by have:=SJ.out;rwa [dQf hv,Bool.and_false] at this
          have hv':decide (vj≤vi)=false:=dQf hv;clear eij;go_wp2;go_round
          case rel=>exact⟨j+1,om,by go_num,hr⟩
          case measure=>simp[intOf];omega
       ·have ej:j=n:=by omega
        have hr:Hid ((List.range (i+1)).any (Ag N)=false):=by
         have:=hal2.out;rw[ej,←HLL.out] at this;exact SN.out.trans this
        clear ej;go_wp2;go_round
        case rel=>exact⟨i+1,om,by go_num,hr⟩
        case measure=>simp[intOf];omega
     ·have ei:i=n:=by omega
      have hr:Hid (Jq N=false):=by have:=hall.out;rw[ei,HN.out] at this;exact this
      clear ei;go_wp2;go_ret;exact⟨by rw[hr.out];rfl,K2⟩
  ·have hl1:((N.length:Int) !=(P.length:Int))=true:=bne_iff_ne.2 om
   have ce:(if sqC P N&& !Jq N then 0 else 3)=3:=by unfold sqC;rw[dQf hl];simp
   rw[ce];clear ce hl;go_in
   go_wp2_with fail;refine BD.out.mono ?_;rintro e w1 ⟨rfl,hb1⟩;have K1:Below w.heap.size w w1:=hb0.trans (hb1.mono sI);have L1:=L0.go hb1;have l0:=L1.gC 0;have l1:=L1.gC 1;have ll:=L1.lt;have z1:=K1.size;have hE2:=hE.below (K1.mono hB);have e1:=hE2.c3;have e2:=hE2.z3;clear BD L1 L0;go_wp2;go_ret;exact⟨rfl,K1.alloc z1 _⟩
def uJ (l:List Int) (x:Int):Int:=l.getD x.toNat 0
def lexL (l:List Int) (x y:Int):Prop:=uJ l x<uJ l y∨(uJ l x=uJ l y∧x<y)
structure ug (l:List Int) (i:Nat) (S:List Int):Prop where
 pw:S.Pairwise (lexL l)
 mem: ∀x:Int,x∈S↔0≤x∧x<i
 len:S.length=i
theorem ug.one (l:List Int):ug l 1 [0]:=⟨sI,fun x=>by simp;omega,rfl⟩
theorem ug.ins {l:List Int} {i:Nat} {A C:List Int} (h:ug l i (A++C)) (ha: ∀a∈A,uJ l a≤uJ l i) (hc: ∀c∈C,uJ l i<uJ l c):ug l (i+1) (A++(i:Int)::C):=by
 obtain⟨p1,p2,p3⟩:=dV.1 h.pw;refine⟨dV.2 ⟨p1,bN.2 ⟨fun c hcc=>.inl (hc c hcc),p2⟩,fun a haa x hx=> ?_⟩,fun x=> ?_,?_⟩
 ·rcases aB.1 hx with rfl|hx
  ·have h1:=ha a haa
   have h2:=(h.mem a).1 (av _ haa);rcases Int.lt_or_eq_of_le h1 with q|q
   ·exact .inl q
   ·exact .inr ⟨q,h2.2⟩
  ·exact p3 a haa x hx
 ·have:=h.mem x
  simp only[aD,aB] at this ⊢;constructor
  ·rintro(q|rfl|q)
   ·have:=this.1 (.inl q);omega
   ·omega
   ·have:=this.1 (.inr q);omega
  ·rintro⟨q1,q2⟩
   by_cases e:x=(i:Int)
   ·exact .inr (.inl e)
   ·rcases this.2 ⟨q1,om⟩ with q|q
    ·exact .inl q
    ·exact .inr (.inr q)
 ·have:=h.len
  simp at this ⊢;omega
theorem ord_last {l:List Int} {i:Nat} {A C:List Int} {y:Int} (h:ug l i ((A++[y])++C)) (hy:uJ l y≤uJ l i): ∀a∈A++[y],uJ l a≤uJ l i:=by
 intro a ha;rcases aD.1 ha with q|q
 ·have p:=(dV.1 (dV.1 h.pw).1).2.2 a q y sI
  rcases p with p|p<;>omega
 ·simp at q;subst q;exact hy
def rz (n i:Nat):List Int:=(List.range' i (n-i)).map fun(j:Nat)=>(j:Int)
theorem Ef {n i:Nat} (h:i<n):rz n i=(i:Int)::rz n (i+1):=by
 unfold rz;obtain⟨d,hd⟩: ∃d,n-i=d+1:=⟨n-i-1,om⟩;rw[hd,show n-(i+1)=d by omega,List.range'_succ];rfl
theorem UU (n:Nat):rz n n=[]:=by unfold rz;simp
theorem A8 (n i:Nat):(rz n i).length=n-i:=by unfold rz;simp
theorem snoc_of {A:List Int} {j:Nat} (h:A.length=j+1): ∃A' y,A=A'++[y]∧A'.length=j:=by
 have hne:A≠[]:=by intro e;rw[e] at h;simp at h
 refine⟨A.dropLast,A.getLast hne,(List.dropLast_concat_getLast hne).symm,by simp[h]⟩
structure wJ (w:World) (bc bn:Nat) (l:List Int) (G:List Nat):Prop where
 at_: ∃(gN oN m k v gl ol kl:Nat),w.cell? ⟨bc,1,none⟩=some (.slice (some ⟨gN,oN,none⟩) m k)∧w.cell? ⟨bn,0,none⟩=some (.int .i64 v)∧v<m∧w.cell? ⟨gN,oN+v,none⟩=some (.slice (some ⟨gl,ol,none⟩) l.length kl)∧
  (∀(j:Nat) (x:Int),l[j]?=some x→w.cell? ⟨gl,ol+j,none⟩=some (.int .i64 x))∧bc<w.heap.size∧bn<w.heap.size∧gN<w.heap.size∧gl<w.heap.size∧bc∉G∧bn∉G∧gN∉G∧gl∉G∧m≤maxLen∧l.length≤maxLen
theorem wJ.keep {S G:List Nat} {w w':World} {bc bn:Nat} {l:List Int} (h:wJ w bc bn l G) (k:Keep S w w') (hs: ∀s∈S,s∈G∨w.heap.size≤s):wJ w' bc bn l G:=by
 obtain⟨gN,oN,m,kk,v,gl,ol,kl,h1,h2,h3,h4,h5,l1,l2,l3,l4,n1,n2,n3,n4,m1⟩:=h.at_;have ns: ∀g,g<w.heap.size→g∉G→g∉S:=fun g hg hn q=>by rcases hs g q with r|r;(·exact hn r);(·omega)
 have z:=k.size;exact⟨gN,oN,m,kk,v,gl,ol,kl,(k.cell l1 (ns _ l1 n1)).trans h1,(k.cell l2 (ns _ l2 n2)).trans h2,h3,(k.cell l3 (ns _ l3 n3)).trans h4,fun j x hj=>(k.cell l4 (ns _ l4 n4)).trans (h5 j x hj),om,om,om,om,n1,n2,n3,n4,m1⟩
theorem wJ.below {G:List Nat} {w w':World} {bc bn:Nat} {l:List Int} (h:wJ w bc bn l G) (k:Below w.heap.size w w'):wJ w' bc bn l G:=h.keep (Keep.of (S:=[]) k) (fun _ q=>by cases q)
theorem Sq (x y:Nat) (bc bn:Nat) (l:List Int) (G:List Nat) (w:World) (h:wJ w bc bn l G) (hx:x<l.length) (hy:y<l.length):
 Calls prog 122 #[.int .i64 x,.int .i64 y,.pointer (some ⟨bc,0,none⟩),.pointer (some ⟨bn,0,none⟩)] w fun e w'=>e= .returned (.int .i64 (Bj (uJ l x) (uJ l y)))∧Below w.heap.size w w':=by
 obtain⟨gN,oN,m,kk,v,gl,ol,kl,h1,h2,h3,h4,h5,l1,l2,l3,l4,n1,n2,n3,n4,m1,m2⟩:=h.at_;unfold maxLen at m1 m2;have c1:=h5 x _ (aA hx);have c2:=h5 y _ (aA hy);have e1:l[x]=uJ l x:=by unfold uJ;simp[hx]
 have e2:l[y]=uJ l y:=by unfold uJ;simp[hy]
 rw[e1] at c1;rw[e2] at c2;clear h5 e1 e2 h;have v0:(0:Int)≤v:=om;have v1:(v:Int)<m:=om;have x0:(0:Int)≤x:=om;have x1:(x:Int)<l.length:=om;have y0:(0:Int)≤y:=om;have y1:(y:Int)<l.length:=om;go_in
 go_wp2_with fail;go_quiet ((go_at_call 123;exact Calls.quiet_of_same ((xY _ _ _).mono fun e w' ⟨a,b⟩=>⟨a,b.symm⟩)));go_wp2;go_ret;exact⟨rfl,below_drewN (aL _ _) _⟩
theorem UW (A R:List Int) (y x:Int) (k:Nat) (hk:A.length=k):((ints (A++y::x::R)).set (k+1) (.int .i64 y)).set k (.int .i64 x)=ints (A++x::y::R):=by
 subst hk;unfold ints;simp[List.set_append]
theorem ints_at {A R:List Int} {x:Int} {k:Nat} (hk:A.length=k):(ints (A++x::R))[k]?=some (.int .i64 x):=PW (by subst hk;simp)
def ordF (bc bn:Nat):Value:=.func (.func 122) #[] #[.pointer (some ⟨bc,0,none⟩),.pointer (some ⟨bn,0,none⟩)]
theorem jR.drew {w:World} {b:Nat} {us:List Value} (h:jR w b us):jR w.drew b us:=h.keep ((Keep.refl [] _).drew) sI
theorem UY (bc bn g cap:Nat) (l:List Int) (n:Nat) (w:World) (h:wJ w bc bn l [g]) (hl:l.length=n) (n1:1≤n) (n4:n≤4) (hcap:n≤cap) (hD:jR w g (ints (rz n 0))):
 Calls prog 184 #[.slice (some ⟨g,0,none⟩) n cap,.int .i64 0,.int .i64 n,ordF bc bn] w fun e w'=>∃D,e= .returned (.tuple #[])∧ug l n D∧jR w' g (ints D)∧Keep [g] w w':=by
 have HK:=ah h;have HD:=ah hD;have HL:=ah hl;clear h hD hl;unfold ordF;go_in
 go_wp2_with fail;go_loopw [8] (fun iv wr=>∃(i:Nat) (S:List Int),1≤i∧i≤n∧iv= .int .i64 i∧Hid (ug l i S)∧Hid (jR wr g (ints (S++rz n i)))∧Keep [g] w wr) (fun iv _=>n-(intOf iv).toNat);case atStart=>exact⟨1,[0],aI _,n1,by go_num,ug.one l,(show jR _ _ _ by have:=HD.out;rwa [Ef om] at this),Keep.refl _ _⟩
 case round=>
  obtain⟨i,S,i1,i2,rfl,OS,LS,hk⟩:=hrel;by_cases hin:i<n
  ·have LS2:Hid (jR wr g (ints (S++(i:Int)::([]++rz n (i+1))))):=by
    have:=LS.out;rwa [Ef hin] at this
   clear LS HD;obtain⟨wo,rfl⟩: ∃wo:World,wo=wr:=⟨_,rfl⟩;go_wp2_with fail;go_loopw [9] (fun jv wq=>∃(j:Nat) (A C:List Int),j≤i∧jv= .int .i64 j∧Hid (A.length=j)∧Hid (ug l i (A++C))∧Hid (∀c∈C,uJ l i<uJ l c)∧Hid (jR wq g (ints (A++(i:Int)::(C++rz n (i+1)))))∧Keep [g] w wq) (fun jv _=>(intOf jv).toNat);case atStart=>exact⟨i,S,[],aI _,rfl,OS.out.len,(show ug _ _ _ by rw[dw];exact OS.out),(fun c hc=>by simp at hc),LS2,hk⟩
   case round=>
    clear LS2 OS hk;obtain⟨j,A,C,hji,rfl,hA,OS,hC,LS,hk⟩:=hrel;have zr:=hk.size;have lg:=LS.out.lt;rcases j with _|k
    ·have hAn:A=[]:=bM.1 hA.out
     have OS2:Hid (ug l (i+1) (([]:List Int)++(i:Int)::C)):=ug.ins (by rw[hAn] at OS;exact OS.out) (fun a ha=>by simp at ha) hC.out;have LS3:Hid (∀w',Keep [] wr w'→jR w' g (ints ((([]:List Int)++(i:Int)::C)++rz n (i+1)))):=fun w' k=>by
      have:=LS.out;rw[hAn] at this;simpa using this.keep k sI
     clear hAn OS LS hC;go_wp2_with fail;go_quiet (fail);go_wp2;go_roundw;case rel=>exact⟨i+1,_,om,om,by go_num,OS2,LS3.out _ ((Keep.refl [] _).drewN _),(hk.then ((Keep.refl _ _).drewN _))⟩
     case measure=>simp[intOf];omega
    ·obtain⟨A',y,rfl,hA'⟩:=snoc_of hA.out
     have my:=(OS.out.mem y).1 sI;obtain⟨yn,rfl⟩: ∃yn:Nat,y=yn:=⟨y.toNat,om⟩;have OC:Hid (∀w',Below wr.heap.size wr w'→Calls prog 122 #[.int .i64 i,.int .i64 yn,.pointer (some ⟨bc,0,none⟩),.pointer (some ⟨bn,0,none⟩)] w' fun e w''=>e= .returned (.int .i64 (Bj (uJ l i) (uJ l yn)))∧Below w'.heap.size w' w''):=fun w' hb=>Sq i yn bc bn l [g] w' ((HK.out.keep hk (fun s hs=>.inl hs)).below hb) (by rw[HL.out];omega) (by rw[HL.out];omega)
     have ca:wr.cell? ⟨g,k+1,none⟩=some (.int .i64 i):=LS.out.c _ _ (ints_at hA.out);have cb:wr.cell? ⟨g,k,none⟩=some (.int .i64 yn):=by
      have:=LS.out.c k (.int .i64 yn) (by
       rw[bT];exact ints_at hA')
      exact this
     have t1:(0:Int)≤((k+1:Nat):Int):=om;have t2:((k+1:Nat):Int)<n:=om;have t3:((k+1:Nat):Int)-1=k:=om;by_cases hlt:uJ l i<uJ l yn
     ·have hcm:Bj (uJ l i) (uJ l yn)= -1:=by unfold Bj;rw[if_pos hlt]
      rw[hcm] at OC;have HLT:=ah hlt;clear hcm hlt;go_wp2_with fail;refine kG kR kR ?_;repeat(go_big_quiet_step ((go_at_call 122;exact Calls.behind (OC.out _ (Behind.h _)))))
      refine wpQuiet_nil ?_;intro w4 hw';have hb4:=lN hw';clear hw';have z4:=hb4.size;try simp at z4
      have L4:=LS.out.go hb4;have d1:=L4.c _ _ (ints_at hA.out);have d2:w4.cell? ⟨g,k,none⟩=some (.int .i64 yn):=L4.c k (.int .i64 yn) (by rw[bT];exact ints_at hA');have d3:=L4.lt;have d4:w4.frozen? ⟨g,k+1,none⟩=false:=L4.f _ (by rw[lV];have:=hA.out;simp at this ⊢;omega);have d5:w4.frozen? ⟨g,k,none⟩=false:=L4.f _ (by rw[lV];have:=hA.out;simp at this ⊢;omega);have L5:Hid (jR ((w4.setCell ⟨g,k+1,none⟩ (.int .i64 yn)).setCell ⟨g,k,none⟩ (.int .i64 i)).drew g (ints (A'++(i:Int)::(((yn:Int)::C)++rz n (i+1))))):=by
       have:=(L4.store (k+1) (.int .i64 yn) (by rw[lV];have:=hA.out;simp at this ⊢;omega)).store k (.int .i64 i) (by rw[cu,lV];have:=hA.out;simp at this ⊢;omega);rw[bT,List.singleton_append,UW A' _ _ _ k hA'] at this;exact this.drew
      have HB4:=ah hb4;have k5:Keep [g] w ((w4.setCell ⟨g,k+1,none⟩ (.int .i64 yn)).setCell ⟨g,k,none⟩ (.int .i64 i)).drew:=(((hk.step hb4).setCell (.inl sI) _).setCell (.inl sI) _).drew;have OS2:Hid (ug l i (A'++((yn:Int)::C))):=by have:=OS.out;rwa [bT,List.singleton_append] at this
      have hC2:Hid (∀c∈((yn:Int)::C),uJ l i<uJ l c):=fun c hc=>by
       rcases aB.1 hc with rfl|hc
       ·exact HLT.out
       ·exact hC.out c hc
      clear L4 ca cb hb4;go_wp2;go_region
      all_goals
       go_wp2;go_roundw;case rel=>exact⟨k,A',_,om,by first|rfl|go_num,hA',OS2,hC2,L5,k5⟩
       case measure=>simp[intOf]
     ·obtain⟨r,hr0,hcm⟩: ∃r:Int,0≤r∧Bj (uJ l i) (uJ l yn)=r:=⟨Bj (uJ l i) (uJ l yn),by unfold Bj;rw[if_neg hlt];split<;>omega,rfl⟩
      rw[hcm] at OC;have hrz: ¬r<0:=om;have hOa:=ord_last OS.out om;have OS2:Hid (ug l (i+1) ((A'++[(yn:Int)])++(i:Int)::C)):=OS.out.ins hOa hC.out;have LS3:Hid (∀w',Keep [] wr w'→jR w' g (ints (((A'++[(yn:Int)])++(i:Int)::C)++rz n (i+1)))):=fun w' k=>by
       have:=LS.out;simpa using this.keep k sI
      clear hcm hlt hOa;go_wp2_with fail;refine kG kR kR ?_;repeat(go_big_quiet_step ((go_at_call 122;exact Calls.behind (OC.out _ (Behind.h _)))))
      refine wpQuiet_nil ?_;intro w4 hw';have hb4:=lN hw';clear hw';have z4:=hb4.size;try simp at z4
      have L6:=ah (LS3.out w4 (Keep.of hb4));have k6:Keep [g] w w4:=hk.step hb4;clear hb4 LS3;go_wp2;go_roundw;case rel=>exact⟨i+1,_,om,om,by go_num,OS2,L6,k6⟩
      case measure=>simp[intOf];omega
  ·have ei:i=n:=by omega
   subst ei;go_wp2;go_end0
   exact⟨S,rfl,OS.out,(by have:=LS.out;rwa [UU,dw] at this),hk⟩
theorem UZ (bc bn g cap:Nat) (l:List Int) (n:Nat) (w:World) (h:wJ w bc bn l [g]) (hl:l.length=n) (n1:1≤n) (n4:n≤4) (hcap:n≤cap) (hD:jR w g (ints (rz n 0))):
 Calls prog 151 #[.slice (some ⟨g,0,none⟩) n cap,.int .i64 n,ordF bc bn] w fun e w'=>∃D,e= .returned (.tuple #[])∧ug l n D∧jR w' g (ints D)∧Keep [g] w w':=by
 have I:=ah (UY bc bn g cap l n w h hl n1 n4 hcap hD);clear h hD hl;have a1: ¬(20:Int)≤(n:Int):=om;have a2: ¬(20:Int)<(n:Int):=om;unfold ordF at*
 go_in
 go_wp2_with fail;go_loop [7,8] (fun a b=>a= .int .i64 0∧b= .int .i64 20) (fun _ _=>0)
 case atStart=>exact⟨rfl,rfl⟩
 case round=>
  obtain⟨rfl,rfl⟩:=hrel;go_wp2_with fail;refine I.out.mono ?_;rintro e w1 ⟨D,rfl,hO,hL,hk⟩;have HO:=ah hO;have HL:=ah hL;clear hO hL I;go_wp2_with fail;go_loop [6] (fun a=>a= .int .i64 20) (fun _=>0)
  case atStart=>exact rfl
  case round=>
   subst hrel;go_wp2;go_end0
   first|exact⟨rfl,D,HO.out,HL.out,hk⟩|exact⟨D,rfl,HO.out,HL.out,hk⟩
theorem Fz (bc bn g cap:Nat) (l:List Int) (n:Nat) (w:World) (h:wJ w bc bn l [g]) (hl:l.length=n) (n1:1≤n) (n4:n≤4) (hcap:n≤cap) (hD:jR w g (ints (rz n 0))):
 Calls prog 121 #[.slice (some ⟨g,0,none⟩) n cap,ordF bc bn] w fun e w'=>∃D,e= .returned (.tuple #[])∧ug l n D∧jR w' g (ints D)∧Keep [g] w w':=by
 have I:=ah (UZ bc bn g cap l n w h hl n1 n4 hcap hD);clear h hD hl;unfold ordF at*
 go_in
 go_wp2_with fail;refine I.out.mono ?_;rintro e w1 ⟨D,rfl,hO,hL,hk⟩;have HO:=ah hO;have HL:=ah hL;clear hO hL I;go_wp2;go_end0
 first|exact⟨rfl,D,HO.out,HL.out,hk⟩|exact⟨D,rfl,HO.out,HL.out,hk⟩
theorem Sr:El 59 3 (.int .i64 0) 8:=⟨dK,kR,rfl,om⟩
theorem elRow:El 94 59 (.slice none 0 0) 24:=⟨Tryz.underlying94,kR,rfl,om⟩
def PY (X:List Nat) (w:World) (us:List Value) (N:List (List Int)):Prop:=∀(j:Nat) (u:Value) (xs:List Int),us[j]?=some u→N[j]?=some xs→nO X w u (ints xs)
theorem row_step {v v2:Value} {Z S:List Nat} {w w':World} {u:Value} {us:List Value} (h:nO (jS v++Z) w u us) (K:Keep S w w') (hS: ∀s∈S,s∈jS v++Z∨w.heap.size≤s) (ho: ∀y∈jS v2,y∈jS v∨w.heap.size≤y):nO (jS v2++Z) w' u us:=by
 have h1:=h.more (Y:=jS v2++(jS v++Z)) (fun y hy=>by
  rcases aD.1 hy with hy|hy
  ·rcases ho y hy with r|r
   ·exact .inl (av _ r)
   ·exact .inr r
  ·exact .inl hy)
 refine(h1.keep K fun s hs=> ?_).sub fun x hx=> ?_
 ·rcases hS s hs with r|r
  ·exact .inl (aj _ r)
  ·exact .inr r
 ·rcases aD.1 hx with r|r
  ·exact av _ r
  ·exact aj _ (aj _ r)
theorem Jr {v v2:Value} {Z S:List Nat} {w w':World} {us:List Value} {N:List (List Int)} (h:PY (jS v++Z) w us N) (K:Keep S w w') (hS: ∀s∈S,s∈jS v++Z∨w.heap.size≤s) (ho: ∀y∈jS v2,y∈jS v∨w.heap.size≤y)
 {u:Value} {xs:List Int} (hx:N[us.length]?=some xs) (hu:nO (jS v2++Z) w' u (ints xs)):PY (jS v2++Z) w' (us++[u]) N:=by
 intro j u' xs' hj hxs;by_cases e:j<us.length
 ·rw[bJ e] at hj
  exact row_step (h j u' xs' hj hxs) K hS ho
 ·have hl:=(au.1 hj).1
  simp at hl;have e2:j=us.length:=om;subst e2;rw[bP (aI _)] at hj;simp at hj;rw[hx] at hxs;injection hxs with hxs;subst hj hxs;exact hu
theorem GU {X:List Nat} (vP vN:Value) (P:List Int) (N:List (List Int)) (mn lw hi:Int) (w:World) (h:Cfg [] w vP vN P N) (hX: ∀x∈X,x<w.heap.size+2) (hX1:w.heap.size+1∈X) (hP:P.length≤20) (hN:N.length≤20) (hNN: ∀(j:Nat) (xs:List Int),N[j]?=some xs→xs.length≤20):
 Calls prog 45 #[.agg #[vP,vN,.int .i64 mn,.int .i64 lw,.int .i64 hi]] w fun e w'=>∃vP' vN',e= .returned (.agg #[vP',vN',.int .i64 mn,.int .i64 lw,.int .i64 hi])∧Cfg X w' vP' vN' P N∧Below w.heap.size w w':=by
 obtain⟨p,cap,rfl,hcp,hmx,_⟩:=h.p.int;obtain⟨q,k,rfl,hck,hkm,hc⟩:=h.n.form;have C:=ah hc;have SP:=ah h.p;unfold maxLen at hmx hkm;have NN:=ah hNN;have HX:=ah hX;obtain⟨n,hn⟩:=eY N.length;obtain⟨m,hm⟩:=eY P.length;rw[←hn] at hN hck;rw[←hm] at hP SP hcp;have HN:=ah hn;have HM:=ah hm;have hm1:(ints P).length=m:=by rw[lV];exact hm.symm
 have HM1:=ah hm1;rw[←hn,←hm];clear hc h hNN hn hm hm1 hX;have L2:jR (((w.alloc (.cells [Value.slice p m cap,Value.slice q n k,.int .i64 mn,.int .i64 lw,.int .i64 hi].toArray 98)).alloc (.cells [Value.slice none 0 0,Value.slice none 0 0,.int .i64 0,.int .i64 0,.int .i64 0].toArray 103)).alloc (.cells [Value.slice none 0 0,Value.slice none 0 0,.int .i64 mn,.int .i64 lw,.int .i64 hi].toArray 103)) (w.heap.size+2) [Value.slice none 0 0,Value.slice none 0 0,.int .i64 mn,.int .i64 lw,.int .i64 hi]:=by
  have:=jR.new ((w.alloc (.cells [Value.slice p m cap,Value.slice q n k,.int .i64 mn,.int .i64 lw,.int .i64 hi].toArray 98)).alloc (.cells [Value.slice none 0 0,Value.slice none 0 0,.int .i64 0,.int .i64 0,.int .i64 0].toArray 103)) [Value.slice none 0 0,Value.slice none 0 0,.int .i64 mn,.int .i64 lw,.int .i64 hi] 103;simpa using this
 have L1:jR (((w.alloc (.cells [Value.slice p m cap,Value.slice q n k,.int .i64 mn,.int .i64 lw,.int .i64 hi].toArray 98)).alloc (.cells [Value.slice none 0 0,Value.slice none 0 0,.int .i64 0,.int .i64 0,.int .i64 0].toArray 103)).alloc (.cells [Value.slice none 0 0,Value.slice none 0 0,.int .i64 mn,.int .i64 lw,.int .i64 hi].toArray 103)) (w.heap.size+1) [Value.slice none 0 0,Value.slice none 0 0,.int .i64 0,.int .i64 0,.int .i64 0]:=by
  have:=(jR.new (w.alloc (.cells [Value.slice p m cap,Value.slice q n k,.int .i64 mn,.int .i64 lw,.int .i64 hi].toArray 98)) [Value.slice none 0 0,Value.slice none 0 0,.int .i64 0,.int .i64 0,.int .i64 0] 103).go (w':=(((w.alloc (.cells [Value.slice p m cap,Value.slice q n k,.int .i64 mn,.int .i64 lw,.int .i64 hi].toArray 98)).alloc (.cells [Value.slice none 0 0,Value.slice none 0 0,.int .i64 0,.int .i64 0,.int .i64 0].toArray 103)).alloc (.cells [Value.slice none 0 0,Value.slice none 0 0,.int .i64 mn,.int .i64 lw,.int .i64 hi].toArray 103))) jY;simpa using this
 have L0:jR (((w.alloc (.cells [Value.slice p m cap,Value.slice q n k,.int .i64 mn,.int .i64 lw,.int .i64 hi].toArray 98)).alloc (.cells [Value.slice none 0 0,Value.slice none 0 0,.int .i64 0,.int .i64 0,.int .i64 0].toArray 103)).alloc (.cells [Value.slice none 0 0,Value.slice none 0 0,.int .i64 mn,.int .i64 lw,.int .i64 hi].toArray 103)) w.heap.size [Value.slice p m cap,Value.slice q n k,.int .i64 mn,.int .i64 lw,.int .i64 hi]:=(jR.new w [Value.slice p m cap,Value.slice q n k,.int .i64 mn,.int .i64 lw,.int .i64 hi] 98).go (w':=(((w.alloc (.cells [Value.slice p m cap,Value.slice q n k,.int .i64 mn,.int .i64 lw,.int .i64 hi].toArray 98)).alloc (.cells [Value.slice none 0 0,Value.slice none 0 0,.int .i64 0,.int .i64 0,.int .i64 0].toArray 103)).alloc (.cells [Value.slice none 0 0,Value.slice none 0 0,.int .i64 mn,.int .i64 lw,.int .i64 hi].toArray 103))) jY;have K0:Below w.heap.size w (((w.alloc (.cells [Value.slice p m cap,Value.slice q n k,.int .i64 mn,.int .i64 lw,.int .i64 hi].toArray 98)).alloc (.cells [Value.slice none 0 0,Value.slice none 0 0,.int .i64 0,.int .i64 0,.int .i64 0].toArray 103)).alloc (.cells [Value.slice none 0 0,Value.slice none 0 0,.int .i64 mn,.int .i64 lw,.int .i64 hi].toArray 103)):=jY;have LL0:=ah L0;have LL1:=ah L1;have LL2:=ah L2;clear L0 L1 L2;go_in
 go_wp2_with (first|(at_builtin;refine rD (base:=w.heap.size+3) (v:=.slice none 0 0) (us:=[]) (ms:=ints P) (p:=p) Sr rfl (.tmp 10) (.tmp 12) rf rf m rf HM1.out (aT _ _ _ _) (SP.out.below K0).src (pO _) (by rw[HM1.out];simp;omega) sI ?_;intro q1 k1 w1 hown1 hg1 ho1;have hb1:Below (w.heap.size+3) (((w.alloc (.cells [Value.slice p m cap,Value.slice q n k,.int .i64 mn,.int .i64 lw,.int .i64 hi].toArray 98)).alloc (.cells [Value.slice none 0 0,Value.slice none 0 0,.int .i64 0,.int .i64 0,.int .i64 0].toArray 103)).alloc (.cells [Value.slice none 0 0,Value.slice none 0 0,.int .i64 mn,.int .i64 lw,.int .i64 hi].toArray 103)) w1:=(aL _ _).grown hg1 sI (fun r hr=>by simp[Value.ownBlock] at hr);have s2:=(LL2.out.below hb1 om).gC 0;have s3:=(LL2.out.below hb1 om).f 0 sI;have sl:=(LL2.out.below hb1 om).lt));obtain⟨w2,hw2⟩:=eY (w1.setCell ⟨w.heap.size+2,0,none⟩ (.slice q1 (ints P).length k1));rw[←hw2];have ks:Keep [w.heap.size+2] w1 w2:=by rw[hw2];exact(Keep.refl _ _).setCell (.inl sI) _
 have hbx:Below w.heap.size w w2:=by rw[hw2];exact(K0.trans (hb1.mono om)).setCell sI _
 have X2:Hid (jR w2 (w.heap.size+2) [.slice q1 m k1,.slice none 0 0,.int .i64 mn,.int .i64 lw,.int .i64 hi]):=by
  have:=(LL2.out.below hb1 om).store 0 (.slice q1 m k1) sI;rw[hw2,HM1.out];exact this
 have X1:Hid (jR w2 (w.heap.size+1) [.slice none 0 0,.slice none 0 0,.int .i64 0,.int .i64 0,.int .i64 0]):=(LL1.out.below hb1 om).keep ks sI;have X0:Hid (jR w2 w.heap.size [.slice p m cap,.slice q n k,.int .i64 mn,.int .i64 lw,.int .i64 hi]):=(LL0.out.below hb1 om).keep ks sI;have RP:Hid (nO (jS (.slice none 0 0)++(w.heap.size+2)::X) w2 (.slice q1 m k1) (ints P)):=by
  have ho:w1.ownsRow (w.heap.size+3) 3 1 (.slice q1 m k1) (ints P).length (ints P):=by have:=hown1;simp only[dx,HM1.out] at this ⊢;exact this
  have:=qA (X:=jS (.slice none 0 0)++(w.heap.size+2)::X) ho (fun x hx g hg=>by
   have:=(ho.lt g hg).1;simp[jS,Value.ownBlock] at hx;rcases hx with rfl|hx
   ·omega
   ·have:=HX.out x hx;omega)
  exact this.keep ks (fun s hs=>.inl (by simp at hs;simp[hs]))
 have z2:=hbx.size;have z3:w.heap.size+2<w2.heap.size:=X2.out.lt;clear hw2 ks hown1 hg1 ho1 hb1 s2 s3 sl LL0 LL1 LL2 K0;rw[HM1.out];go_loopw [4] (fun iv wr=>∃(i:Nat) (us:List Value) (qN:Option Addr) (kN:Nat),i≤n∧iv= .int .i64 i∧us.length=i∧Hid (jR wr (w.heap.size+2) [.slice q1 m k1,.slice qN i kN,.int .i64 mn,.int .i64 lw,.int .i64 hi])∧Hid (jR wr (w.heap.size+1) [.slice none 0 0,.slice none 0 0,.int .i64 0,.int .i64 0,.int .i64 0])∧Hid (jR wr w.heap.size [.slice p m cap,.slice q n k,.int .i64 mn,.int .i64 lw,.int .i64 hi])∧Hid (wr.ownsRow (w.heap.size+3) 59 1 (.slice qN i kN) i us)∧Hid (PY (jS (.slice qN i kN)++(w.heap.size+2)::X) wr us N)∧Hid (nO (jS (.slice qN i kN)++(w.heap.size+2)::X) wr (.slice q1 m k1) (ints P))∧Below w.heap.size w wr) (fun iv _=>n-(intOf iv).toNat);case atStart=>exact⟨0,[],none,0,bq _,by go_num,rfl,X2,X1,X0,aT _ _ _ _,(fun j u xs hj=>by simp at hj),RP,hbx⟩
 case round=>
  obtain⟨i,us,qN,kN,hiN,rfl,hus,Y2,Y1,Y0,OW,RT,RPr,hbel⟩:=hrel;clear X2 X1 X0 RP;have zr:=hbel.size;have z4:w.heap.size+2<wr.heap.size:=Y2.out.lt;have y0:=Y0.out.gC 1;have yl:=Y0.out.lt;have y1:=Y2.out.gC 1;have yf:=Y2.out.f 1 sI;by_cases hin:i<n
  ·obtain⟨xs,hx⟩: ∃x,N[i]?=some x:=⟨N[i]'(by rw[←HN.out];exact hin),aA _⟩
   obtain⟨g,off,u,rfl,_,hg,hc,hu⟩:=C.out i xs hx;have r1:=(hbel.cell (p:=⟨g,off+i,none⟩) hg).trans hc;have gr:g<wr.heap.size:=om;have hlx:=NN.out i xs hx;obtain⟨pu,ku,rfl,hk1,hk2,_⟩:=hu.int;have SU:=ah (hu.below (hbel.drew));have HX1:=ah hx;clear hc hu hx;have OWK:Hid (∀(w1:World) (o:Obj),Below wr.heap.size wr w1→(w1.alloc o).ownsRow (w.heap.size+3) 59 1 (.slice qN i kN) us.length us):=fun w1 o hb=>by
    rw[hus];exact jQ OW.out ((Keep.of (S:=[]) hb).alloc o) (fun x hx=>by cases hx)
   have HST:Hid (∀(w1 w2:World) (o:Obj),Below wr.heap.size wr w1→(w1.alloc o).grownBy w2 (Value.slice qN i kN).ownBlock→jR w2 (w.heap.size+2) [.slice q1 m k1,.slice qN i kN,.int .i64 mn,.int .i64 lw,.int .i64 hi]):=fun w1 w2 o hb hg=>by
    refine(Y2.out.keep ((Keep.of (S:=[]) hb).alloc o) sI).keep (kJ hg) (fun hq=> ?_);have:=jZ OW.out hq;omega
   have hii:us.length=i:=hus;have HUS:=ah hus;clear hus hii;go_wp2_with fail;go_region_law (first
    |(refine rU (base:=wr.heap.size) (v:=.slice none 0 0) (us:=[]) (ms:=ints xs) (p:=pu) Sr rf (.tmp 24) (.tmp 29) rf rf _ rf (lV xs) (aT _ _ _ _) SU.out.src (pO _) (by rw[lV];simp;omega) sI ?_;intro qa ka w3 hown3 hg3 ho3;have hb3:Below wr.heap.size wr w3:=((aL _ _).drew).grown hg3 sI (fun r hr=>by simp[Value.ownBlock] at hr);have t1:=(Y2.out.go hb3).gC 1;have t2:=(Y2.out.go hb3).lt)
    |(refine rU (base:=w.heap.size+3) (v:=.slice qN i kN) (us:=us) (p:=some ⟨w3.heap.size,0,none⟩) elRow rf (.tmp 23) (.tmp 31) rf rf 1 rf rfl (OWK.out w3 _ hb3) (qQ _ _ _) (by intro x hx;simp at hx;subst hx;rfl) (by rw[HUS.out];simp;omega) (by have:=hb3.size;simp;omega) ?_;intro qb kb w4 kV hg4 ho4;have X4:=HST.out w3 w4 _ hb3 hg4;have s1:=X4.gC 1;have s2:=X4.f 1 sI;have s3:=X4.lt))
   all_goals
    obtain⟨w5,hw5⟩:=eY (w4.setCell ⟨w.heap.size+1+1,1,none⟩ (.slice qb (us.length+1) kb));rw[←hw5];have hlen:(us++[Value.slice qa (ints xs).length ka]).length=us.length+1:=sI;rw[hlen] at kV ho4;have k34:Keep (jS (.slice qN i kN)) w3 w4:=((Keep.refl (jS (.slice qN i kN)) w3).alloc _).then (kJ hg4);have k35:Keep ((w.heap.size+2)::jS (.slice qN i kN)) w3 w5:=by rw[hw5];exact(k34.mono (fun s hs=>ak _ hs)).setCell (.inl sI) _
    have kr5:Keep ((w.heap.size+2)::jS (.slice qN i kN)) wr w5:=(Keep.of hb3).then k35;have oge: ∀g∈jS (.slice qN i kN),w.heap.size+3≤g:=fun g hg=>(jZ OW.out hg).1
    have Z2:Hid (jR w5 (w.heap.size+2) [.slice q1 m k1,.slice qb (us.length+1) kb,.int .i64 mn,.int .i64 lw,.int .i64 hi]):=by
     rw[hw5];exact X4.store 1 _ sI
    have Z1:Hid (jR w5 (w.heap.size+1) _):=Y1.out.keep kr5 (fun q=>by simp at q;have:=oge _ q;omega);have Z0:Hid (jR w5 w.heap.size _):=Y0.out.keep kr5 (fun q=>by simp at q;have:=oge _ q;omega);have o5:Hid (w5.ownsRow (w.heap.size+3) 59 1 (.slice qb (us.length+1) kb) (us.length+1) (us++[.slice qa (ints xs).length ka])):=jQ kV (show Keep [w.heap.size+2] w4 w5 by rw[hw5];exact(Keep.refl _ _).setCell (.inl sI) _) (fun x hx q=>by
     simp at hx;subst hx;have:=jZ kV q;omega)
    have ho: ∀y∈jS (.slice qb (us.length+1) kb),y∈jS (.slice qN i kN)∨wr.heap.size≤y:=fun y hy=>by
     rcases oM ho4 y hy with r|r
     ·exact .inl r
     ·have:=hb3.size;simp at r;exact .inr om
    have hS: ∀s∈((w.heap.size+2)::jS (.slice qN i kN)),s∈jS (.slice qN i kN)++(w.heap.size+2)::X∨wr.heap.size≤s:=fun s hs=>by
     simp at hs;rcases hs with rfl|hs
     ·exact .inl sI
     ·exact .inl (av _ hs)
    have own3:w3.ownsRow wr.heap.size 3 1 (.slice qa (ints xs).length ka) (ints xs).length (ints xs):=by simpa using hown3
    have new3:nO (jS (.slice qN i kN)++(w.heap.size+2)::X) w3 (.slice qa (ints xs).length ka) (ints xs):=qA own3 (fun x hx g hg=>by
     have h1:=(own3.lt g hg).1;rcases aD.1 hx with hx|hx
     ·have:=(jZ OW.out hx).2;omega
     ·simp at hx
      rcases hx with rfl|hx
      ·omega
      ·have:=HX.out x hx;omega)
    have hu5:nO (jS (.slice qb (us.length+1) kb)++(w.heap.size+2)::X) w5 (.slice qa (ints xs).length ka) (ints xs):=row_step new3 k35 (fun s hs=>(hS s hs).imp id (fun r=>by
     exfalso;simp at hs;rcases hs with rfl|hs
     ·omega
     ·have:=(jZ OW.out hs).2;omega)) (fun y hy=>by
     rcases oM ho4 y hy with r|r
     ·exact .inl r
     ·simp at r;exact .inr om)
    have RT5:Hid (PY (jS (.slice qb (us.length+1) kb)++(w.heap.size+2)::X) w5 (us++[.slice qa (ints xs).length ka]) N):=Jr RT.out kr5 hS ho (by rw[HUS.out];exact HX1.out) hu5;have RP5:Hid (nO (jS (.slice qb (us.length+1) kb)++(w.heap.size+2)::X) w5 (.slice q1 m k1) (ints P)):=row_step RPr.out kr5 hS ho;have K5:Below w.heap.size w w5:=hbel.trans (kr5.below zr (fun s hs=>by simp at hs;rcases hs with rfl|hs;(·omega);(·have:=oge _ hs;omega)));have HL:=ah hlen;have hui:=HUS.out;rw[hui] at Z2 o5 RT5 RP5 ⊢;clear hlen k34 k35 kr5 oge own3 new3 hu5 hS ho hown3 kV hg3 hg4 ho3 ho4 hb3 X4 s1 s2 s3 t1 t2 y0 y1 yf hw5 hui Y2 Y1 Y0 OW RT RPr;go_wp2;go_roundw;case rel=>exact⟨i+1,us++[.slice qa (ints xs).length ka],qb,kb,om,by go_num,by rw[HL.out,HUS.out],Z2,Z1,Z0,o5,RT5,RP5,K5⟩
    case measure=>simp[intOf];omega
  ·have ei:i=n:=by omega
   have cf:Hid (Cfg X wr (.slice q1 m k1) (.slice qN i kN) P N):=by
    refine⟨RPr.out.sub (fun x hx=>by simp[hx]),us,by rw[hus,ei,HN.out],?_,fun j u xs hu hx=>(RT.out j u xs hu hx).sub (fun x hx=>by simp[hx])⟩;have ow:wr.ownsRow (w.heap.size+3) 59 1 (.slice qN i kN) us.length us:=by rw[hus];exact OW.out
    exact qA ow (fun x hx g hg=>by
     have:=(ow.lt g hg).1;have:=HX.out x hx;omega)
   have a0:=Y2.out.gC 0;have a2:=Y2.out.gC 2;have a3:=Y2.out.gC 3;have a4:=Y2.out.gC 4;have b0:=Y1.out.gC 0;have b1:=Y1.out.gC 1;have b2:=Y1.out.gC 2;have b3:=Y1.out.gC 3;have b4:=Y1.out.gC 4;have c0:=Y1.out.f 0 sI;have c1:=Y1.out.f 1 sI;have c2:=Y1.out.f 2 sI;have c3:=Y1.out.f 3 sI;have c4:=Y1.out.f 4 sI;obtain⟨w6,hw6⟩:=eY (((((wr.setCell ⟨w.heap.size+1,0,none⟩ (.slice q1 m k1)).setCell ⟨w.heap.size+1,1,none⟩ (.slice qN i kN)).setCell ⟨w.heap.size+1,2,none⟩ (.int .i64 mn)).setCell ⟨w.heap.size+1,3,none⟩ (.int .i64 lw)).setCell ⟨w.heap.size+1,4,none⟩ (.int .i64 hi));have Y6:Hid (jR w6 (w.heap.size+1) [.slice q1 m k1,.slice qN i kN,.int .i64 mn,.int .i64 lw,.int .i64 hi]):=by
    rw[hw6];exact((((Y1.out.store 0 (.slice q1 m k1) sI).store 1 (.slice qN i kN) sI).store 2 (.int .i64 mn) sI).store 3 (.int .i64 lw) sI).store 4 (.int .i64 hi) sI
   have k6:Hid (Below w.heap.size w w6):=by rw[hw6];exact((((hbel.setCell sI _).setCell sI _).setCell sI _).setCell sI _).setCell sI _
   have cf6:Hid (Cfg X w6 (.slice q1 m k1) (.slice qN i kN) P N):=by
    have kk:Keep [w.heap.size+1] wr w6:=by rw[hw6];exact(((((Keep.refl _ _).setCell (.inl sI) _).setCell (.inl sI) _).setCell (.inl sI) _).setCell (.inl sI) _).setCell (.inl sI) _
    exact cf.out.keep kk (fun s hs=>.inl (by simp at hs;rw[hs];exact hX1))
   have H6:=ah hw6;clear RT RPr OW ei hw6;go_wp2;rw[←H6.out];have d0:=Y6.out.gC 0;have d1:=Y6.out.gC 1;have d2:=Y6.out.gC 2;have d3:=Y6.out.gC 3;have d4:=Y6.out.gC 4;exact bodyPost_ret (v:=.agg #[.slice q1 m k1,.slice qN i kN,.int .i64 mn,.int .i64 lw,.int .i64 hi]) (by simp[d0,d1,d2,d3,d4,results,Tryz.results45,go_sem]) rfl ⟨_,_,rfl,cf6.out,k6.out⟩
theorem Js {X:List Nat} (vP vN:Value) (P:List Int) (N:List (List Int)) (mn lw hi:Int) (w:World) (h:Cfg [] w vP vN P N) (hX: ∀x∈X,x<w.heap.size) (hP:P.length≤20) (hN:N.length≤20) (hNN: ∀(j:Nat) (xs:List Int),N[j]?=some xs→xs.length≤20):
 Calls prog 45 #[.agg #[vP,vN,.int .i64 mn,.int .i64 lw,.int .i64 hi]] w fun e w'=>∃vP' vN',e= .returned (.agg #[vP',vN',.int .i64 mn,.int .i64 lw,.int .i64 hi])∧Cfg X w' vP' vN' P N∧Below w.heap.size w w':=
 (GU (X:=(w.heap.size+1)::X) vP vN P N mn lw hi w h (fun x hx=>by simp at hx;rcases hx with rfl|hx;(·omega);(·have:=hX x hx;omega)) sI hP hN hNN).mono fun e w' ⟨a,b,h1,h2,h3⟩=>⟨a,b,h1,⟨h2.p.sub fun x hx=>by simp[hx],by
   obtain⟨us,u1,u2,u3⟩:=h2.n;exact⟨us,u1,u2.sub fun x hx=>by simp[hx],fun j u xs q1 q2=>(u3 j u xs q1 q2).sub fun x hx=>by simp[hx]⟩⟩,h3⟩
theorem Sv (i:Nat):rz (i+1) 0=rz i 0++[(i:Int)]:=by
 unfold rz;simp[List.range'_concat]
theorem V5 {w:World} {B:Nat} {E:TypeId} {g n cap:Nat} {us:List Value} (h:w.ownsRow B E 1 (.slice (some ⟨g,0,none⟩) n cap) n us):jR w g us:=by
 have hl:=h.1;refine⟨(h.lt g rfl).2,fun j u hj=> ?_,fun j hj=>h.frozenAt j⟩;have:=(au.1 hj).1;rw[h.cellAt j om];exact hj
theorem xZ {X:List Nat} {w:World} {g cap:Nat} {us:List Value} (h:jR w g us) (hg:g∉X) (hc:us.length≤cap) (hm:cap≤maxLen):nO X w (.slice (some ⟨g,0,none⟩) us.length cap) us:=
 ⟨_,cap,rfl,hc,hm,fun j u hj=>⟨g,0,rfl,hg,h.lt,by rw[bK];exact h.c j u hj⟩⟩
theorem own_form {w:World} {B:Nat} {E:TypeId} {s:Nat} {q:Option Addr} {n k:Nat} {us:List Value} (h:w.ownsRow B E s (.slice q n k) n us) (hn:0<n): ∃g,q=some ⟨g,0,none⟩∧B≤g∧n≤k∧k≤maxLen:=by
 rcases h.2 with⟨_,h3⟩|⟨g,cap,cur,e,hg,_,h4,h5,_⟩
 ·omega
 ·injection e with e1 e2 e3
  subst e3;exact⟨g,e1,hg,h4,h5⟩
def OrdPost (X:List Nat) (l:List Int) (n:Nat) (w:World) (e:Ending) (w':World):Prop:=
 ∃(g cap:Nat) (D:List Int),e= .returned (.tuple #[.slice (some ⟨g,0,none⟩) n cap,.nilIface])∧ug l n D∧jR w' g (ints D)∧w.heap.size≤g∧n≤cap∧cap≤maxLen∧Below w.heap.size w w'
theorem order_ok {B:Nat} {ev:Nat→Addr} (X:List Nat) (vP vN:Value) (P:List Int) (N:List (List Int)) (mn lw hi:Int) (v:Nat) (l:List Int) (w:World) (hE:Ap B ev w) (h:Cfg X w vP vN P N) (hc:uF P N mn lw hi=0) (hv:N[v]?=some l) (hl:l.length=P.length) (hN:N.length=P.length) (hp:P.length≤4):
 Calls prog 91 #[.agg #[vP,vN,.int .i64 mn,.int .i64 lw,.int .i64 hi],.int .i64 v] w (OrdPost X l P.length w):=by
 have hB:=hE.size;have hvn:v<P.length:=by rw[←hN];exact(au.1 hv).1
 obtain⟨p,cap,rfl,hcp,hmx,_⟩:=h.p.int;obtain⟨q,k,rfl,hck,hkm,hcn⟩:=h.n.form;have hcn:=ah hcn;obtain⟨gN,oN,u,rfl,_,hgN,hcu,hu⟩:=hcn.out v l hv;obtain⟨pl,kl,rfl,hkl,hml,hcl⟩:=hu.int;have hl0:=hcl 0 _ (aA om);obtain⟨gl,ol,rfl,_,hgl,hd0⟩:=hl0;clear hd0;have hrow:Hid (∀(j:Nat) (x:Int),l[j]?=some x→w.cell? ⟨gl,ol+j,none⟩=some (.int .i64 x)):=fun j x hj=>by
  obtain⟨g2,o2,e,_,_,hc2⟩:=hcl j x hj;injection e with e;injection e with e1 e2;subst e1 e2;exact hc2
 have L0:jR ((w.alloc (.cells [.slice p P.length cap,.slice (some ⟨gN,oN,none⟩) N.length k,.int .i64 mn,.int .i64 lw,.int .i64 hi].toArray 103)).alloc (.cells #[.int .i64 v] 3)) w.heap.size [.slice p P.length cap,.slice (some ⟨gN,oN,none⟩) N.length k,.int .i64 mn,.int .i64 lw,.int .i64 hi]:=(jR.new w [.slice p P.length cap,.slice (some ⟨gN,oN,none⟩) N.length k,.int .i64 mn,.int .i64 lw,.int .i64 hi] 103).go (w':=(w.alloc (.cells [.slice p P.length cap,.slice (some ⟨gN,oN,none⟩) N.length k,.int .i64 mn,.int .i64 lw,.int .i64 hi].toArray 103)).alloc (.cells #[.int .i64 v] 3)) jY;have L1:jR ((w.alloc (.cells [.slice p P.length cap,.slice (some ⟨gN,oN,none⟩) N.length k,.int .i64 mn,.int .i64 lw,.int .i64 hi].toArray 103)).alloc (.cells #[.int .i64 v] 3)) (w.heap.size+1) [.int .i64 v]:=by
  have:=jR.new (w.alloc (.cells [.slice p P.length cap,.slice (some ⟨gN,oN,none⟩) N.length k,.int .i64 mn,.int .i64 lw,.int .i64 hi].toArray 103)) [.int .i64 v] 3;simpa using this
 have hb0:Below w.heap.size w ((w.alloc (.cells [.slice p P.length cap,.slice (some ⟨gN,oN,none⟩) N.length k,.int .i64 mn,.int .i64 lw,.int .i64 hi].toArray 103)).alloc (.cells #[.int .i64 v] 3)):=jY;have CH:=GR X _ _ P N mn lw hi _ (hE.below (hb0.mono hB)) (h.below hb0);rw[hc,show kM ev 0=Value.nilIface from rfl] at CH;have CH':=ah CH;have HL0:=ah L0;have HL1:=ah L1;have HB0:=ah hb0;have HLL:=ah hl;have HNN:=ah hN;obtain⟨n,hn⟩:=eY P.length;rw[hN] at HL0 HL1 HB0 CH' hck ⊢;rw[←hn] at hp hvn HL0 HL1 HB0 hcp HLL HNN CH' hck ⊢;have hmx':n≤4:=hp;have hn1:1≤n:=om;have HU:=ah hcu;unfold maxLen at hmx hkm hml;clear CH h hc hn hb0 L0 L1 hcl hu hv hl hN hcu;have v0:decide ((v:Int)<0)=false:=dQf om;have v1:decide (n≤v)=false:=dQf om;go_in
 go_wp2_with fail;refine CH'.out.mono ?_;rintro e w1 ⟨rfl,hb1⟩;have K1:Below w.heap.size w w1:=HB0.out.trans (hb1.mono (by simp;omega));have M0:=ah (HL0.out.go hb1);have M1:=ah (HL1.out.go hb1);have a0:=M0.out.gC 0;have a1:=M1.out.gC 0;have al:=M0.out.lt;have bl:=M1.out.lt;have z1:=K1.size;clear CH' HL0 HL1 HB0 hb1;go_wp2_with fail;go_loopw [7,27] (fun lv iv wr=>∃(i:Nat) (q:Option Addr) (k:Nat),i≤n∧iv= .int .i64 i∧lv= .slice q i k∧Hid (wr.ownsRow w1.heap.size 3 1 (.slice q i k) i (ints (rz i 0)))∧Below w1.heap.size w1 wr) (fun _ iv _=>n-(intOf iv).toNat);case atStart=>exact⟨0,none,0,bq _,by go_num,rfl,aT _ _ _ _,aL _ _⟩
 case round=>
  obtain⟨i,q,kq,hi,rfl,rfl,OW,hbel⟩:=hrel;have zr:=hbel.size;by_cases hin:i<n
  ·have hil:(ints (rz i 0)).length=i:=by rw[lV,A8];omega
   have OW2:Hid (∀o,(wr.alloc o).ownsRow w1.heap.size 3 1 (.slice q i kq) (ints (rz i 0)).length (ints (rz i 0))):=fun o=>by rw[hil];exact OW.out.alloc o
   have HIL:=ah hil;clear hil OW;go_wp2_with (first|(at_builtin;refine rD (base:=w1.heap.size) (v:=.slice q i kq) (us:=ints (rz i 0)) (ms:=[.int .i64 i]) (p:=some ⟨wr.heap.size,0,none⟩) Sr rfl (.tmp 30) (.tmp 32) rf rf 1 rf rfl (OW2.out _) (qQ _ _ _) (by intro x hx;simp at hx;subst hx;rfl) (by rw[HIL.out];simp;omega) (by simp;omega) ?_;intro qb kb w4 kV hg4 ho4));have e4:ints (rz i 0)++[Value.int .i64 i]=ints (rz (i+1) 0):=by rw[Sv];simp[ints]
   have l4:(ints (rz (i+1) 0)).length=i+1:=by rw[lV,A8];omega
   rw[e4,l4] at kV;have OW4:=ah kV;have hb4:Below w1.heap.size w1 w4:=(hbel.alloc zr _).grown hg4 (by simp;omega) (fun r hr=>((OW2.out (.cells #[.int .i64 i] 3)).lt r hr).1);have LI:Hid ((ints (rz i 0)).length+1=i+1):=by have:=HIL.out;show _=_;omega
   clear kV hg4 ho4 OW2 e4 l4;simp only[HIL.out];go_wp2;go_roundw;case rel=>exact⟨i+1,qb,kb,om,by go_num,rfl,OW4,hb4⟩
   case measure=>simp[intOf];omega
  ·have ei:i=n:=by omega
   subst ei;obtain⟨g,rfl,hg1,hg2,hg3⟩:=own_form OW.out om;have LD:=V5 OW.out;have KW:Below w.heap.size w wr:=K1.trans (hbel.mono z1);have m0:=(M0.out.go hbel).gC 1;have m1:=(M1.out.go hbel).gC 0;have KB:wJ wr w.heap.size (w.heap.size+1) l [g]:=⟨gN,oN,i,k,v,gl,ol,kl,m0,m1,hvn,(KW.cell (p:=⟨gN,oN+v,none⟩) hgN).trans HU.out,fun j x hj=>(KW.cell (p:=⟨gl,ol+j,none⟩) hgl).trans (hrow.out j x hj),om,om,om,om,by simp;omega,by simp;omega,by simp;omega,by simp;omega,by unfold maxLen;omega,by rw[HLL.out];unfold maxLen;omega⟩;have SS:=ah (Fz w.heap.size (w.heap.size+1) g kq l i wr KB HLL.out hn1 hp hg2 LD);unfold ordF at SS;clear KB LD m0 m1 OW M0 M1;go_wp2_with fail;refine SS.out.mono ?_;rintro e w5 ⟨D,rfl,hO,hL,hk⟩;have HO:=ah hO;have HLo:=ah hL;have K5:Below w.heap.size w w5:=KW.trans (hk.below om (fun s hs=>by simp at hs;omega));clear hO hL SS hk;go_wp2;go_ret2
   exact⟨g,kq,D,rfl,HO.out,HLo.out,om,hg2,hg3,K5⟩
section
open Go.RowKit Go.ChangeShapes Go.WideShapes Go.Joins
end
