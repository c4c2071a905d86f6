/- Lemmas. -/
import Derived.Test.YtehhldljdakgeaaGreatDoorQb01
import Derived.Test.YtehhldljdakgeaaGreatDoorQb20
set_option linter.unusedSimpArgs false
set_option linter.unusedVariables false
set_option maxHeartbeats 16000000
set_option maxRecDepth 100000
namespace Go.Proofs.YtehhldljdakgeaaGreatDoor
open Go.RowKit Go.Maps Go.Proofs.Tryz
attribute [local go_sem ↓] aJ aK
section
open Go.RowKit Go.Lib
theorem TG (w:World) (ty:TypeId) (b o c:Nat) (hc:(w.cell? ⟨b,o,none⟩).isSome=true) (hf:w.frozen? ⟨b,o,none⟩=false):
 (Builtin.clear_ #[59] ty #[.slice (some ⟨b,o,none⟩) 1 c]).run prog w= .ok (.tuple #[]) (w.setCells b o [.int .i64 0]):=by
 have hst:=run_storeCells_cells (P:=prog) b o [.int .i64 0] 0 w (by intro j hj;simp at hj;subst hj;simpa using hc) (by intro j hj;simp at hj;subst hj;simpa using hf) (by intro v hv;simp at hv;subst hv;rfl);simp only[gP] at hst;have hz:(Value.int .i64 0).cells=#[.int .i64 0]:=rfl;have hzz:(zeroValue 3).run prog w= .ok (.int .i64 0) w:=kR;simp[Builtin.clear_,run_underlying dK,hzz,hz];have e1:(Builtin.zeroCells #[Value.int .i64 0] 1).toList=[.int .i64 0]:=by simp[Builtin.zeroCells]
 rw[e1,hst];rfl
def AL (B:Nat) (g k i:Nat) (us:List Value) (w:World) (e:Ending) (w':World):Prop:=
 e= .returned (.slice (some ⟨g,0,none⟩) (us.length-1) k)∧w'.ownsRow B 3 1 (.slice (some ⟨g,0,none⟩) (us.length-1) k) (us.length-1) (us.eraseIdx i)∧Keep [g] w w'
theorem Wx {B:Nat} (g k i:Nat) (us rest:List Value) (w:World) (hR:Row1 w g 3 (us++rest)) (hk:(us++rest).length=k) (hm:k≤maxLen) (hBg:B≤g) (hi:i<us.length) (h1: ∀x∈us,x.oneCell'=true) (hl:us.length≤2000):
 Calls prog 65 #[.slice (some ⟨g,0,none⟩) us.length k,.int .i64 i,.int .i64 ((i:Int)+1)] w (AL B g k i us w):=by
 obtain⟨n,hn⟩:=eY us.length;have hrk:n≤k:=by rw[←hk,hn];simp
 have hdl:(us.drop (i+1)).length=n-(i+1):=by rw[bY,hn]
 have LR:=hR.loc;have hsp: ∀(W:World),W=w.drew→∀j,j<(us.drop (i+1)).length→(W.cell? ⟨g,0+i*1+j,none⟩).isSome=true∧W.frozen? ⟨g,0+i*1+j,none⟩=false:=fun W hW j hj=>by
  subst hW;rw[hdl] at hj;obtain⟨x,hx⟩: ∃x,(us++rest)[0+i*1+j]?=some x:=⟨(us++rest)[0+i*1+j]' om,aA _⟩;exact⟨by show(w.cell? _).isSome=true;rw[LR.c _ x hx];rfl,LR.f _ om⟩
 have hsrc: ∀(W:World),W=w.drew→∀(c:Nat) (j:Nat) (u:Value),(us.drop (i+1))[j]?=some u→W.cell? (Addr.add ⟨g,i+1,none⟩ j)=some u:=fun W hW c j u hj=>by
  subst hW;rw[addr_add];rw[cO] at hj;exact LR.c (i+1+j) u (by rw[bJ (au.1 hj).1];exact hj)
 obtain⟨W1,hW1⟩:=eY (w.drew.setCells g i (us.drop (i+1)));have R1:=hR.drew.sets (us.drop (i+1)) i (by rw[hdl,hk];omega);rw[←hW1] at R1;have L1:=R1.loc;have l1:((us++rest).take i++us.drop (i+1)++(us++rest).drop (i+(us.drop (i+1)).length)).length=k:=by simp only[aW,bD,bY] at hk ⊢;omega
 have hcl:=fun ty c=>TG W1 ty g (n-1) c (by
  obtain⟨x,hx⟩: ∃x,((us++rest).take i++us.drop (i+1)++(us++rest).drop (i+(us.drop (i+1)).length))[n-1]?=some x:=⟨_,aA (by rw[l1];omega)⟩;rw[L1.c _ x hx];rfl) (L1.f _ (by rw[l1];omega))
 have FIN:Hid (AL B g k i us w (.returned (.slice (some ⟨g,0,none⟩) (n-1) k)) (W1.setCells g (n-1) [.int .i64 0])):=by
  have R2:=R1.sets [.int .i64 0] (n-1) (by rw[l1];simp;omega);have hlen:(((us++rest).take i++us.drop (i+1)++(us++rest).drop (i+(us.drop (i+1)).length)).take (n-1)++[Value.int .i64 0]++((us++rest).take i++us.drop (i+1)++(us++rest).drop (i+(us.drop (i+1)).length)).drop (n-1+[Value.int .i64 0].length)).length=k:=by simp only[aW,bD,bY,cB] at l1 ⊢;omega
  have ow:=R2.own hBg (n:=n-1) (by rw[hlen];omega) (by rw[hlen];exact hm);rw[hlen] at ow;have e2:=Td (rest:=rest) (z:=Value.int .i64 0) hi;rw[←hn] at e2;rw[cB] at ow;rw[e2] at ow;refine⟨by rw[hn],by rw[←hn];exact ow,?_⟩;rw[hW1];exact ou _ _ (ou _ _ (Keep.refl _ _).drew (.inl sI)) (.inl sI)
 have hz2: ¬((i:Int)=(i:Int)+1):=om;have htn:((i:Int)+1).toNat=i+1:=om;have hb1:(0:Int)≤(i:Int)+1:=om;have hi0:(0:Int)≤(i:Int):=om;have hb3:(i:Int)≤(i:Int)+1:=om;have hb4:(i:Int)+1≤(n:Int):=om;have hb5:(i:Int)+1≤(k:Int):=om;have hb6:(i:Int)≤(k:Int):=om;have hw2:((n-1:Nat):Int)≤(n:Int):=om;have hnk:(n:Int)≤(k:Int):=om;have hn1:n-(n-1)=1:=om;have hki: ¬(k=i):=om;have hkn: ¬(k=n-1):=om;have hl':n≤2000:=om;have hin:i+(n-(i+1))=n-1:=om;rw[←hn];unfold maxLen at hm;have ml:=dK;obtain⟨i0,hi0',hz0,hzs,hzb⟩:=info_parts (P:=prog) (e:=3) (z:=.int .i64 0) (size:=1) (bytes:=8) kR;have hone: ∀u∈us.drop (i+1),u.oneCell'=true:=fun u hu=>h1 u (fV hu)
 clear hR LR R1 L1 l1 hk hn hi hl h1;go_in
 by_cases hc:k=i+1
 ·obtain rfl:n=i+1:=by omega
  subst hc;have hd0:us.drop (i+1)=[]:=bM.1 om;rw[hd0] at hW1;simp only[World.setCells] at hW1;go_wp2;go_region_law (refine step_append_room rfl (.tmp 22) (.tmp 25) 59 rfl 3 i0 1 dK hi0' hzs g 0 i (i+1) (by simp[Act.eval,Act.put]) ⟨g,0,none⟩ 0 0 [] (by simp[Act.eval,Act.put]) sI sI sI om sI ?_)
  subst hW1;simp only[World.setCells];simp only[Nat.add_sub_cancel] at hcl FIN;go_wp2;go_ret;exact FIN.out
 ·go_wp2
  go_region_law (refine step_append_room rfl (.tmp 22) (.tmp 25) 59 rfl 3 i0 1 dK hi0' hzs g 0 i k (by simp[Act.eval,Act.put]) ⟨g,i+1,none⟩ (n-(i+1)) (k-(i+1)) (us.drop (i+1)) (by simp[Act.eval,Act.put]) (by rw[hdl];omega) (hsrc _ rfl 0) hone om (hsp _ rfl) ?_)
  rw[←hW1];clear hW1;go_wp2;go_ret;exact FIN.out
theorem Ck {B:Nat} (v:Value) (xs:List Int) (w:World) (h:w.ownsRow B 3 1 v xs.length (ints xs)) (hl:xs.length≤60000):
 Calls prog 66 #[v] w fun e w'=>∃q k,e= .returned (.slice q xs.length k)∧w'.ownsRow w.heap.size 3 1 (.slice q xs.length k) xs.length (ints xs)∧Below w.heap.size w w':=by
 have il:(ints xs).length=xs.length:=by simp[ints]
 have HIL:=ah il;have hv:=qA (X:=[]) (by rw[il];exact h) (fun x hx=>by cases hx);rcases h.2 with⟨rfl,h3⟩|⟨g,cap,cur,rfl,hg,hh,hcap,hmax,_⟩
 ·obtain rfl:xs=[]:=bM.1 h3
  have FIN:Hid (w.ownsRow w.heap.size 3 1 (.slice none 0 0) 0 (ints [])):=aT _ _ _ _;rw[show([]:List Int).length=0 from rfl];have es:(binOp .eql 59 (.slice none 0 0) (.slice none 0 0)).run prog w= .ok (.bool true) w:=Lib.run_eql_slice_nil w _ 3 none 0 0 0 0 dK;clear h hv il HIL h3 hl;go_in
  go_wp2;go_ret;exact⟨none,0,rfl,FIN.out,aL _ _⟩
 ·obtain⟨n,hn⟩:=eY xs.length
  have EN:=ah hn;have O0:Hid ((w.alloc (.cells #[] 3)).ownsRow w.heap.size 3 1 (.slice (some ⟨w.heap.size,0,none⟩) 0 0) 0 []):=⟨rfl,.inr ⟨w.heap.size,0,#[],rfl,aI _,(MapKept.heap_alloc w _).1,aI _,bq _,rfl,rfl⟩⟩;have S1:Hid (uP (w.alloc (.cells #[] 3)) (some ⟨g,0,none⟩) (ints xs)):=(hv.below jY).src;rw[←hn] at hl ⊢;have es:(binOp .eql 59 (.slice (some ⟨g,0,none⟩) n cap) (.slice none 0 0)).run prog w= .ok (.bool false) w:=Lib.run_eql_slice_nil w _ 3 _ n cap 0 0 dK;clear h hv hn il hh hg hcap hmax;go_in
  go_wp2_with (first|(at_builtin;refine rD (base:=w.heap.size) (v:=.slice (some ⟨w.heap.size,0,none⟩) 0 0) (us:=[]) (ms:=ints xs) (p:=some ⟨g,0,none⟩) Sr rfl (.tmp 5) (.tmp 6) rf rf n rf (HIL.out.trans EN.out.symm) O0.out S1.out (pO _) (by rw[HIL.out,←EN.out];simp;omega) sI ?_;intro q1 k1 w1 hown1 hg1 ho1)|go_in);have e5:(ints xs).length=n:=HIL.out.trans EN.out.symm;simp only[dx] at hown1;rw[e5] at hown1 ⊢;go_ret;exact⟨q1,k1,rfl,hown1,(show Below w.heap.size w (w.alloc (.cells #[] 3)) from jY).trans ((aL _ _).grown hg1 sI (fun r hr=>by simp[Value.ownBlock] at hr;omega))⟩
def JZ:List Int→Int→Option Nat
 |[],_=>none
 |a::l,x=>if a=x then some 0 else(JZ l x).map (· +1)
theorem sJ: ∀{l:List Int} {x:Int} {i:Nat},JZ l x=some i→l[i]?=some x∧(∀j,j<i→l[j]?≠some x)∧l.erase x=l.eraseIdx i
 |[],x,i,h=>by cases h
 |a::l,x,i,h=>by
  unfold JZ at h;split at h
  ·rename_i q;cases h;subst q
   exact⟨rfl,fun j hj=>om,sI⟩
  ·rename_i q
   rw[dh] at h;obtain⟨k,hk,rfl⟩:=h;obtain⟨h1,h2,h3⟩:=sJ hk;refine⟨by simpa using h1,fun j hj=> ?_,?_⟩
   ·cases j with
    |zero=>simpa using q
    |succ j=>simpa using h2 j om
   ·rw[List.erase_cons_tail (by simpa using q),h3];rfl
theorem qZ: ∀{l:List Int} {x:Int},JZ l x=none↔x∉l
 |[],x=>by simp[JZ]
 |a::l,x=>by
  unfold JZ;split
  ·rename_i q;subst q;simp
  ·rename_i q
   rw[gJ,qZ];simp only[aB,not_or];exact⟨fun h=>⟨fun r=>q r.symm,h⟩,fun h=>h.2⟩
def EG (l:List Int) (x:Int):Int:=match JZ l x with|some i=>i|none=> -1
theorem yY {X:List Nat} (v:Value) (xs:List Int) (x:Int) (w:World) (h:nO X w v (ints xs)) (hl:xs.length≤60000):
 Calls prog 72 #[v,.int .i64 x] w fun e w'=>e= .returned (.int .i64 (EG xs x))∧w'=w:=by
 obtain⟨p,cap,rfl,h2,h3,h4⟩:=h.form;have il:(ints xs).length=xs.length:=by simp[ints]
 rw[il] at h2 ⊢;have CL:Hid (∀j a,xs[j]?=some a→∃g off,p=some ⟨g,off,none⟩∧g<w.heap.size∧w.cell? ⟨g,off+j,none⟩=some (.int .i64 a)):=fun j a hj=>by
  obtain⟨g,off,e1,_,e2,e3⟩:=h4 j _ (show(ints xs)[j]?=some (.int .i64 a) by simp[ints,hj]);exact⟨g,off,e1,e2,e3⟩
 obtain⟨n,hn⟩:=eY xs.length;have EN:=ah hn;rw[←hn] at h2 hl ⊢;unfold maxLen at h3;obtain⟨r,hr⟩:=eY (EG xs x);have HR:=ah hr;rw[←hr];clear h h4 il hn hr;go_in
 go_wp2;go_loop [5,8] (fun _ iv=>∃j:Nat,j≤n∧iv= .int .i64 j∧Hid (∀i,i<j→xs[i]?≠some x)) (fun _ iv=>n-(intOf iv).toNat)
 case atStart=>exact⟨0,om,by go_num,fun i hi=>om⟩
 case round=>
  obtain⟨j,hj,rfl,HJ⟩:=hrel;have j0:(0:Int)≤(j:Int):=om;by_cases hjn:j<n
  ·obtain⟨a,ha⟩: ∃a,xs[j]?=some a:=⟨xs[j]'(by rw[←EN.out];exact hjn),aA _⟩
   obtain⟨g,off,rfl,e2,e3⟩:=CL.out j a ha;have HA:=ah ha;have j1:(j:Int)<(n:Int):=om;clear ha;by_cases hax:x=a
   ·subst hax
    have ev:r=j:=by
     rw[HR.out];unfold EG;cases hi:JZ xs x with
     |none=>exact absurd (aF HA.out) (qZ.1 hi)
     |some i=>
      obtain⟨q1,q2,_⟩:=sJ hi;show((i:Nat):Int)=j;have:i=j:=by
       rcases gW i j with t|t|t
       ·exact absurd q1 (HJ.out i t)
       ·exact t
       ·exact absurd HA.out (q2 j t)
      rw[this]
    subst ev;go_wp2;go_ret;exact⟨rfl,rfl⟩
   ·go_wp2
    go_round
    case rel=>exact⟨j+1,om,by go_num,fun i hi q=>by
     rcases dP.1 hi with t|t
     ·exact HJ.out i t q
     ·subst t;rw[HA.out] at q;exact hax (aO q).symm⟩
    case measure=>simp[intOf];omega
  ·obtain rfl:j=n:=by omega
   have ev:r= -1:=by
    rw[HR.out];unfold EG;cases hi:JZ xs x with
    |none=>rfl
    |some i=>
     obtain⟨q1,_⟩:=sJ hi;exact absurd q1 (HJ.out i (by rw[EN.out];exact(au.1 q1).1))
   subst ev;go_wp2;go_ret;exact⟨rfl,rfl⟩
end
def pws (pp bt bg:Nat) (vw:Value):List Nat:=pp::bt::bg::jS vw
def kS (pd bt bg:Nat) (vr vw:Value) (p:Po):List Value:=[.pointer (some ⟨pd,0,none⟩),.int .i64 p.most,vr,.map (some bt),vw,.map (some bg),.int .i64 p.last,.bool p.cl]
structure PoB (X:List Nat) (B:Nat) (w:World) (pp pd bt bg:Nat) (vr vw:Value) (p:Po):Prop where
 c:jR w pp (kS pd bt bg vr vw p)
 r:mD X w vr p.R
 t:qO prog 40 w bt (EF p.T)
 ow:w.ownsRow B 3 1 vw p.W.length (ints p.W)
 g:qO prog 3 w bg (Dm p.G)
 nd:(pws pp bt bg vw).Nodup
 lim: ∀y∈pws pp bt bg vw,B≤y∧y<w.heap.size
section
variable {X Y S F G:List Nat} {B:Nat} {w w' w1 w2:World} {pp pd bt bg:Nat} {vr vw vr' vw':Value} {p p':Po}
theorem nK:pp∈pws pp bt bg vw:=aG ..
theorem nY:bt∈pws pp bt bg vw:=ak _ (aG ..)
theorem tC:bg∈pws pp bt bg vw:=ak _ (ak _ (aG ..))
theorem Ka {y:Nat} (h:y∈jS vw):y∈pws pp bt bg vw:=ak _ (ak _ (ak _ h))
theorem PoB.keep (h:PoB X B w pp pd bt bg vr vw p) (k:Keep S w w') (hs: ∀s∈S,s∉pws pp bt bg vw∧(s∈X∨w.heap.size≤s)):PoB X B w' pp pd bt bg vr vw p:=
 ⟨h.c.keep k fun q=>(hs _ q).1 nK,h.r.keep k fun s q=>(hs s q).2,h.t.keep k fun q=>(hs _ q).1 nY,jQ h.ow k fun s q r=>(hs s q).1 (Ka r),h.g.keep k fun q=>(hs _ q).1 tC,h.nd,
  fun y hy=>⟨(h.lim y hy).1,aC (h.lim y hy).2 k.size⟩⟩
theorem PoB.below (h:PoB X B w pp pd bt bg vr vw p) (k:Below w.heap.size w w'):PoB X B w' pp pd bt bg vr vw p:=h.keep (Keep.of (S:=[]) k) (fun _ q=>by cases q)
theorem PoB.more (h:PoB X B w pp pd bt bg vr vw p) (hY: ∀y∈Y,y∈X∨w.heap.size≤y):PoB Y B w pp pd bt bg vr vw p:=⟨h.c,h.r.more hY,h.t,h.ow,h.g,h.nd,h.lim⟩
theorem PoB.atD (h:PoB X B w pp pd bt bg vr vw p) (d:De):PoB X B w pp pd bt bg vr vw (p.atD d):=⟨h.c,h.r,h.t,h.ow,h.g,h.nd,h.lim⟩
theorem PoB.ne (h:PoB X B w pp pd bt bg vr vw p):pp≠bt∧pp≠bg∧bt≠bg∧pp∉jS vw∧bt∉jS vw∧bg∉jS vw:=by
 obtain⟨n1,n2⟩:=aS.1 h.nd;obtain⟨n3,n4⟩:=aS.1 n2;obtain⟨n5,_⟩:=aS.1 n4;simp only[aB,not_or] at n1 n3;exact⟨n1.1,n1.2.1,n3.1,n1.2.2,n3.2,n5⟩
end
section
variable {pd pc pz e:Nat} {mn:Int} {O:List (List Int)} {ev:Nat→Addr} {w0:World}
structure PoT (E:sG pd pc pz e mn O ev w0) (X F:List Nat) (pp bt bg:Nat) (vr vw:Value) (p:Po) (w:World):Prop where
 s:E.S X (pws pp bt bg vw++F) p.d w
 b:PoB X w0.heap.size w pp pd bt bg vr vw p
 f: ∀f∈F,f∉pws pp bt bg vw
def PoX (E:sG pd pc pz e mn O ev w0) (X F:List Nat) (pp:Nat) (p:Po) (w:World):Prop:=(∃bt bg vr vw,PoT E X F pp bt bg vr vw p w)∧nX e p
def nN (E:sG pd pc pz e mn O ev w0) (X F:List Nat) (pp:Nat) (p':Po) (w w':World):Prop:=
 ∃X',PoX E X' F pp p' w'∧Keep (off X F) w w'∧(∀x∈X',x∈X∨w.heap.size≤x)∧∀x∈X,x∈X'
def PPost (E:sG pd pc pz e mn O ev w0) (X F:List Nat) (pp:Nat) (p':Po) (w:World) (r:Value) (en:Ending) (w':World):Prop:=en= .returned r∧nN E X F pp p' w w'
variable {E:sG pd pc pz e mn O ev w0} {X X' Y S F G:List Nat} {w w' w1 w2:World} {pp bt bg:Nat} {vr vw vr' vw':Value} {p p':Po} {d:De} {r:Value} {en:Ending}
theorem PoT.go (h:PoT E X F pp bt bg vr vw p w) (k:Below w.heap.size w w'):PoT E X F pp bt bg vr vw p w':=⟨E.go h.s k,h.b.below k,h.f⟩
theorem PoX.go (h:PoX E X F pp p w) (k:Below w.heap.size w w'):PoX E X F pp p w':=by
 obtain⟨⟨bt,bg,vr,vw,q⟩,i⟩:=h;exact⟨⟨bt,bg,vr,vw,q.go k⟩,i⟩
theorem PoX.bel (h:PoX E X F pp p w):Below w0.heap.size w0 w:=by
 obtain⟨⟨bt,bg,vr,vw,q⟩,i⟩:=h;exact E.bel q.s
theorem PoX.lim (h:PoX E X F pp p w): ∀x∈X,w0.heap.size≤x∧x<w.heap.size:=by
 obtain⟨⟨bt,bg,vr,vw,q⟩,i⟩:=h;exact E.lim q.s
theorem PoX.sU (h:PoX E X F pp p w): ∀f∈F,f∈X:=by
 obtain⟨⟨bt,bg,vr,vw,q⟩,i⟩:=h;exact fun f hf=>E.sU q.s f (aj _ hf)
theorem PoT.inX (h:PoT E X F pp bt bg vr vw p w): ∀y∈pws pp bt bg vw,y∈X:=fun y hy=>E.sU h.s y (av _ hy)
theorem nN.same (h:PoX E X F pp p w) (k:Below w.heap.size w w'):nN E X F pp p w w':=⟨X,h.go k,Keep.of k,fun _ q=>.inl q,fun _ q=>q⟩
theorem nN.refl (h:PoX E X F pp p w):nN E X F pp p w w:=nN.same h (aL _ _)
theorem nN.ahead (hk:Below w.heap.size w w1) (h:nN E X F pp p' w1 w2):nN E X F pp p' w w2:=by
 obtain⟨X',h1,h2,h3,h4⟩:=h;have z:=hk.size;exact⟨X',h1,(Keep.of hk).then h2,fun x q=>(h3 x q).imp id (fun r=>om),h4⟩
theorem nN.behind (h:nN E X F pp p' w w1) (hk:Below w1.heap.size w1 w2):nN E X F pp p' w w2:=by
 obtain⟨X',h1,h2,h3,h4⟩:=h;exact⟨X',h1.go hk,h2.step hk,h3,h4⟩
theorem Io (h: ∀x∈X',x∈X∨w.heap.size≤x) (hk:Keep (off X F) w w1) (hk2:Keep (off X' F) w1 w2):Keep (off X F) w w2:=hk.trans hk2 fun s q=>by
 obtain⟨q1,q2⟩:=jW.1 q;exact(h s q1).imp (fun r=>jW.2 ⟨r,q2⟩) id
theorem PoT.put (h:PoT E X F pp bt bg vr vw p w) (k:Keep (pws pp bt bg vw) w w') (Y:List Nat) (hY: ∀y∈Y,w.heap.size≤y∧y<w'.heap.size) (hw: ∀y∈jS vw',y∈jS vw∨y∈Y)
 (hb:PoB (Y++X) w0.heap.size w' pp pd bt bg vr' vw' p') (hd:p'.d=p.d) (hi:nX e p'):nN E X F pp p' w w':=by
 have hsub: ∀y∈pws pp bt bg vw',y∈Y++pws pp bt bg vw:=fun y hy=>by
  rcases aB.1 hy with q|q
  ·subst q;exact aj _ nK
  rcases aB.1 q with q|q
  ·subst q;exact aj _ nY
  rcases aB.1 q with q|q
  ·subst q;exact aj _ tC
  rcases hw y q with r|r
  ·exact aj _ (Ka r)
  ·exact av _ r
 have s1:=E.uS (Y:=Y) h.s k (fun g q=>av _ q) hY;refine⟨Y++X,⟨⟨bt,bg,vr',vw',?_,hb,fun f hf q=> ?_⟩,hi⟩,k.mono fun s q=>jW.2 ⟨h.inX s q,fun r=>h.f s r q⟩,fun x q=> ?_,fun x q=>aj _ q⟩
 ·rw[hd]
  refine E.wB s1 fun g q=> ?_
  rcases aD.1 q with r|r
  ·rcases aD.1 (hsub g r) with t|t
   ·exact av _ t
   ·exact aj _ (av _ t)
  ·exact aj _ (aj _ r)
 ·rcases aD.1 (hsub f q) with r|r
  ·have:=(hY f r).1
   have:=(E.lim h.s f (E.sU h.s f (aj _ hf))).2;omega
  ·exact h.f f hf r
 ·rcases aD.1 q with r|r
  ·exact .inr (hY x r).1
  ·exact .inl r
theorem PoT.putW (h:PoT E X F pp bt bg vr vw p w) (k:Keep (pws pp bt bg vw) w w') (hw: ∀y∈jS vw',y∈jS vw∨(w.heap.size≤y∧y<w'.heap.size)) (hc:jR w' pp (kS pd bt bg vr vw' p'))
 (hT:qO prog 40 w' bt (EF p'.T)) (hW:w'.ownsRow w0.heap.size 3 1 vw' p'.W.length (ints p'.W)) (hG:qO prog 3 w' bg (Dm p'.G)) (hR:p'.R=p.R) (hd:p'.d=p.d) (hi:nX e p'):nN E X F pp p' w w':=by
 obtain⟨m1,m2,m3,m4,m5,m6⟩:=h.b.ne;have far: ∀y,y∈pws pp bt bg vw→y∉jS vw→y∉jS vw':=fun y hy hn q=>by
  rcases hw y q with r|r
  ·exact hn r
  ·have:=(h.b.lim y hy).2;omega
 have hY: ∀y∈(jS vw').filter (fun y=>decide (w.heap.size≤y)),w.heap.size≤y∧y<w'.heap.size:=fun y hy=>by
  obtain⟨q1,q2⟩:=bG.1 hy;have q2:w.heap.size≤y:=of_decide_eq_true q2;rcases hw y q1 with r|r
  ·have:=(h.b.lim y (Ka r)).2;omega
  ·exact r
 have hw2: ∀y∈jS vw',y∈jS vw∨y∈(jS vw').filter (fun y=>decide (w.heap.size≤y)):=fun y hy=>(hw y hy).imp id fun r=>bG.2 ⟨hy,dQt r.1⟩
 refine h.put k _ hY hw2 ⟨hc,?_,hT,hW,hG,?_,fun y hy=> ?_⟩ hd hi
 ·rw[hR]
  exact(h.b.r.more fun y hy=>(aD.1 hy).elim (fun r=>.inr (hY y r).1) .inl).keep k fun s q=>.inl (aj _ (h.inX s q))
 ·refine aS.2 ⟨?_,aS.2 ⟨?_,aS.2 ⟨far bg tC m6,?_⟩⟩⟩
  ·simp only[aB,not_or];exact⟨m1,m2,far pp nK m4⟩
  ·simp only[aB,not_or];exact⟨m3,far bt nY m5⟩
  ·unfold jS;cases vw'.ownBlock<;>simp
 ·rcases aB.1 hy with q|q
  ·subst q;exact⟨(h.b.lim _ nK).1,aC (h.b.lim _ nK).2 k.size⟩
  rcases aB.1 q with q|q
  ·subst q;exact⟨(h.b.lim _ nY).1,aC (h.b.lim _ nY).2 k.size⟩
  rcases aB.1 q with q|q
  ·subst q;exact⟨(h.b.lim _ tC).1,aC (h.b.lim _ tC).2 k.size⟩
  rcases hw y q with r|r
  ·exact⟨(h.b.lim _ (Ka r)).1,aC (h.b.lim _ (Ka r)).2 k.size⟩
  ·have:=(E.bel h.s).size;exact⟨om,r.2⟩
theorem PoT.putR (h:PoT E X F pp bt bg vr vw p w) (k:Keep [pp,bt,bg] w w') (hc:jR w' pp (kS pd bt bg vr' vw p'))
 (hT:qO prog 40 w' bt (EF p'.T)) (hG:qO prog 3 w' bg (Dm p'.G)) (hR:mD X w' vr' p'.R) (hW:p'.W=p.W) (hd:p'.d=p.d) (hi:nX e p'):nN E X F pp p' w w':=by
 obtain⟨m1,m2,m3,m4,m5,m6⟩:=h.b.ne;have kk:Keep (pws pp bt bg vw) w w':=k.mono fun s q=>by
  simp at q;rcases q with rfl|rfl|rfl
  ·exact nK
  ·exact nY
  ·exact tC
 refine h.put kk [] (fun y q=>by cases q) (fun y q=>.inl q) ⟨hc,hR,hT,?_,hG,h.b.nd,fun y hy=>⟨(h.b.lim y hy).1,aC (h.b.lim y hy).2 k.size⟩⟩ hd hi;rw[hW];exact jQ h.b.ow k fun s q r=>by
  simp at q;rcases q with rfl|rfl|rfl
  ·exact m4 r
  ·exact m5 r
  ·exact m6 r
theorem PoT.Dn (h:PoT E X F pp bt bg vr vw p w) (hp:EPost E.S X (pws pp bt bg vw++F) d w r en w'):en= .returned r∧∃X',PoT E X' F pp bt bg vr vw (p.atD d) w'∧Keep (off X F) w w'∧(∀x∈X',x∈X∨w.heap.size≤x)∧∀x∈X,x∈X':=by
 obtain⟨h1,X',h2,h3,h4,h5⟩:=hp;refine⟨h1,X',⟨h2,((h.b.atD d).more h4).keep h3 fun s q=>⟨fun r=>(jW.1 q).2 (av _ r),.inl (h5 s (jW.1 q).1)⟩,h.f⟩,h3.mono fun s q=>jW.2 ⟨(jW.1 q).1,fun r=>(jW.1 q).2 (aj _ r)⟩,h4,h5⟩
theorem PoX.other (h:PoX E X F pp p w) (k:Keep G w w') (hs: ∀g∈G,g∈F):PoX E X F pp p w':=by
 obtain⟨⟨bt,bg,vr,vw,q⟩,i⟩:=h;exact⟨⟨bt,bg,vr,vw,E.other q.s k fun g t=>aj _ (hs g t),q.b.keep k fun s t=>⟨q.f s (hs s t),.inl (E.sU q.s s (aj _ (hs s t)))⟩,q.f⟩,i⟩
theorem PoX.uS (h:PoX E X F pp p w) (k:Keep G w w') (hs: ∀g∈G,g∈F) (hY: ∀y∈Y,w.heap.size≤y∧y<w'.heap.size):PoX E (Y++X) (Y++F) pp p w':=by
 obtain⟨⟨bt,bg,vr,vw,q⟩,i⟩:=h;refine⟨⟨bt,bg,vr,vw,E.wB (E.uS (Y:=Y) q.s k (fun g t=>aj _ (hs g t)) hY) fun g t=> ?_,(q.b.more (Y:=Y++X) fun y t=> ?_).keep k fun s t=>⟨q.f s (hs s t),.inl (aj _ (E.sU q.s s (aj _ (hs s t))))⟩,fun f t r=> ?_⟩,i⟩
 ·rcases aD.1 t with r|r
  ·exact aj _ (av _ r)
  ·rcases aD.1 r with u|u
   ·exact av _ u
   ·exact aj _ (aj _ u)
 ·rcases aD.1 t with r|r
  ·exact .inr (hY y r).1
  ·exact .inl r
 ·rcases aD.1 t with u|u
  ·have:=(hY f u).1;have:=(q.b.lim f r).2;omega
  ·exact q.f f u r
theorem PoX.wB (h:PoX E X F pp p w) (hs: ∀g∈G,g∈F):PoX E X G pp p w:=by
 obtain⟨⟨bt,bg,vr,vw,q⟩,i⟩:=h;refine⟨⟨bt,bg,vr,vw,E.wB q.s fun g t=> ?_,q.b,fun f t=>q.f f (hs f t)⟩,i⟩;rcases aD.1 t with r|r
 ·exact av _ r
 ·exact aj _ (hs g r)
def kQ (E:sG pd pc pz e mn O ev w0) (pp:Nat):FEnv Po w0 where
 S X F p w:=PoX E X F pp p w
 bel h:=h.bel
 lim h:=h.lim
 sU h:=h.sU
 go h k:=h.go k
 other h k hs:=h.other k hs
 uS h k hs hy:=h.uS k hs hy
 wB h hg:=h.wB hg
variable {X0 L:List Nat} {W W':World}
theorem PoX.Dn (h:PoX E X F pp p w) (hi:nX e (p.atD d)): ∃Z,E.S X Z p.d w∧∀{r en w'},EPost E.S X Z d w r en w'→EPost (kQ E pp).S X F (p.atD d) w r en w':=by
 obtain⟨⟨bt,bg,vr,vw,q⟩,i⟩:=h;refine⟨_,q.s,fun {r en w'} hp=> ?_⟩;obtain⟨h1,X',h2,h3,h4,h5⟩:=q.Dn hp;exact⟨h1,X',⟨⟨bt,bg,vr,vw,h2⟩,hi⟩,h3,h4,h5⟩
end
theorem l6 {w:World} {B n:Nat} {E:TypeId} {v:Value} {us:List Value} {s:Nat} (h:w.ownsRow B E s v n us): ∃q k,v= .slice q n k:=by
 rcases h.2 with⟨e,e2⟩|⟨g,cap,cur,e,_⟩
 ·exact⟨none,0,by rw[e,e2]⟩
 ·exact⟨_,_,e⟩
theorem Qv (xs:List Int):(ints xs).length=xs.length:=by simp[ints]
section
variable {pd pc pz e:Nat} {mn:Int} {O:List (List Int)} {ev:Nat→Addr} {w0:World} {E:sG pd pc pz e mn O ev w0} {X F:List Nat} {w:World} {pp:Nat} {p:Po}
theorem Qw (hlast:p.last<4611686018427387904) (h:PoX E X F pp p w):
 Calls prog 58 #[.pointer (some ⟨pp,0,none⟩)] w (PPost E X F pp (mY p).1 w (kM ev (mY p).2)):=by
 have HIN:=ah (nX.TD h.2);have hl0:=h.2.l0;have hw8:=h.2.w;have FIN0:Hid (∀W,Below w.heap.size w W→nN E X F pp p w W):=fun W b=>nN.same h b
 obtain⟨⟨bt,bg,vr,vw,q⟩,hi⟩:=h;have HE:=ah (E.err.go (E.bel q.s));obtain⟨qw,kw,rfl⟩:=l6 q.b.ow;have c4:=q.b.c.gC 4;have c6:=q.b.c.gC 6;have cl:=q.b.c.lt;have f6:=q.b.c.f 6 (by simp[kS]);have f4:=q.b.c.f 4 (by simp[kS]);have e8:kM ev 8= .iface 336 (.pointer (some (ev 8))):=rfl;have e10:kM ev 10= .iface 336 (.pointer (some (ev 10))):=rfl;unfold mY at HIN ⊢;by_cases h8:8≤p.W.length
 ·rw[if_pos h8,e10]
  have gs:w.cell? ⟨7,0,none⟩=some (.iface 336 (.pointer (some (ev 10)))):=HE.out.cell 10 (by decide) (by decide);have gl:7<w.heap.size:=aC (HE.out.glob 10 (by decide) (by decide)) HE.out.size;have d8:decide ((8:Int)≤(p.W.length:Int))=true:=dQt om;obtain⟨n,hn⟩:=eY p.W.length;rw[←hn] at c4 d8 hw8;clear q hi hn h8 HIN;go_in
  go_wp2;go_ret;exact⟨rfl,FIN0.out _ (aL _ _)⟩
 ·rw[if_neg h8] at HIN
  rw[if_neg h8,e8];have d8:decide ((8:Int)≤(p.W.length:Int))=false:=dQf om;have gs:w.cell? ⟨8,0,none⟩=some (.iface 336 (.pointer (some (ev 8)))):=HE.out.cell 8 (by decide) (by decide);have gl:8<w0.heap.size:=HE.out.glob 8 (by decide) (by decide);have HQ:=ah q;obtain⟨n,hn⟩:=eY p.W.length;have EN:=ah hn;obtain⟨L,hL⟩:=eY p.last;have EL:=ah hL;rw[←hn] at c4 d8 hw8 h8;rw[←hL] at c6 hlast hl0;have wl:IntKind.i64.wrap (L+1)=L+1:=aY _ om;obtain⟨w1,hw1⟩:=eY (w.setCell ⟨pp,6,none⟩ (.int .i64 (L+1)));have L1:=ah (show jR w1 pp _ from by rw[hw1];exact q.b.c.store 6 (.int .i64 (L+1)) (by simp[kS]));have K1:Hid (Keep [pp] w w1):=by show Keep [pp] w w1;rw[hw1];exact(Keep.refl _ _).setCell (p:=⟨pp,6,none⟩) (.inl sI) _
  have NE:=ah q.b.ne;have x4:=L1.out.gC 4;have x6:=L1.out.gC 6;have xl:=L1.out.lt;have xf4:=L1.out.f 4 (by simp[kS]);rw[←hn] at x4;have IL:Hid ((ints p.W).length=n):=(Qv p.W).trans hn.symm;have O1:Hid (w1.ownsRow w0.heap.size 3 1 (.slice qw n kw) n (ints p.W)):=by
   have:=jQ q.b.ow K1.out (fun s hs=>by simp at hs;subst hs;exact q.b.ne.2.2.2.1);rw[←hn] at this;exact this
  have OW:Hid (((w1.alloc (.cells #[.int .i64 (L+1)] 3)).drew).ownsRow w0.heap.size 3 1 (.slice qw n kw) (ints p.W).length (ints p.W)):=by
   show World.ownsRow _ _ _ _ _ _ _;rw[IL.out];exact(O1.out.alloc _).drew
  have SRC:Hid (uP ((w1.alloc (.cells #[.int .i64 (L+1)] 3)).drew) (some ⟨w1.heap.size,0,none⟩) [.int .i64 (L+1)]):=JI ((jR.mk_ w1 [.int .i64 (L+1)] 3 rfl).mP);have B0:Hid (w0.heap.size≤w1.heap.size):=by
   show w0.heap.size≤w1.heap.size;have:=(E.bel q.s).size;have:=K1.out.size;omega
  clear q hi hn hL hlast;go_in
  go_wp2_with fail;rw[←hw1];clear hw1 c4 c6 f6 f4 cl;refine kE (S:=(fun w'=>w'.cell? ⟨pp,4,none⟩=some (.slice qw n kw)∧w'.cell? ⟨pp,6,none⟩=some (.int .i64 (L+1)))) 11 #[false,false,false,false,false,false,false,false,false,false,false] rfl kR kR (by(try dsimp only);go_keep) (fun hHeld=> ?_);simp only[aQ,aV];refine tk 0 ?_;refine tk 1 ?_;refine tk 2 ?_;refine tk 3 ?_;refine tk 4 ?_;refine tk 5 ?_;refine tk 6 ?_;refine tk 7 ?_;refine tk 8 ?_;refine wpAnyH_ready (rs:=[9]) kR sI ?_;refine aR (jT rfl) (fun K hK=> ?_) aX;go_simp
  refine hkO hK fun hHeld=> ?_
  clear hK K;refine wpAnyH_ready (rs:=[10]) kR sI ?_;refine aR (jT rfl) (fun K hK=> ?_) aX;refine rU Sr (base:=w0.heap.size) (v:=.slice qw n kw) (us:=ints p.W) (ms:=[.int .i64 (L+1)]) (p:=some ⟨w1.heap.size,0,none⟩) rf (.tmp 21) (.tmp 26) rf rf 1 rf rfl OW.out SRC.out (by intro x hx;simp at hx;subst hx;rfl) (by rw[IL.out];simp;omega) (by have:=B0.out;simp;omega) ?_;intro q4 k4 w4 kV hg4 ho4;have e5:(ints p.W++[Value.int .i64 (L+1)]).length=n+1:=by rw[aW,IL.out];rfl
  rw[e5] at kV ho4 ⊢;have eo:jS (.slice qw n kw)=jS (.slice qw p.W.length kw):=by rw[EN.out]
  have npp:pp∉jS (.slice qw n kw):=by rw[eo];exact NE.out.2.2.2.1
  have K4:Keep (jS (.slice qw n kw)) w1 w4:=(show Keep (jS (.slice qw n kw)) w1 ((w1.alloc (.cells #[.int .i64 (L+1)] 3)).drew) from Keep.of jY).then (kJ hg4);have y0:=(K4.cell (o:=4) xl npp).trans x4;have y1:=(K4.cell (o:=6) xl npp).trans x6;have yf:=(K4.frozen (o:=4) xl npp).trans xf4;have yl:=aC xl K4.size;refine hkO hK fun hHeld=> ?_
  clear hK K;refine wpAnyH_done kR ?_ _;simp only[oz,aP,aU];have HK4:=ah K4;have HOWN:=ah kV;have EO:=ah eo;have HVN:Hid (∀y∈jS (.slice q4 (n+1) k4),y∈jS (.slice qw n kw)∨w1.heap.size≤y):=fun y hy=>by
   rcases oM ho4 y hy with r|r
   ·exact .inl r
   ·exact .inr (by simp at r;omega)
  have gl4:8<w4.heap.size:=by have:=B0.out;have:=K4.size;omega
  have gs4:w4.cell? ⟨8,0,none⟩=some (.iface 336 (.pointer (some (ev 8)))):=by
   have nw:8∉jS (.slice qw n kw):=fun r=>by
    rw[eo] at r;have:=(HQ.out.b.lim _ (Ka r)).1;omega
   have np:8∉[pp]:=fun r=>by
    simp at r;have:=(HQ.out.b.lim _ nK).1;omega
   exact(K4.cell (o:=0) (by have:=B0.out;omega) nw).trans ((K1.out.cell (o:=0) (by have:=HE.out.size;omega) np).trans gs)
  have gp: ¬(8=pp):=fun r=>by
   have:=(HQ.out.b.lim _ nK).1;omega
  clear kV ho4 hg4 e5 K4 hHeld gs gl eo x4 x6 xl xf4;go_wp2;go_ret;refine⟨rfl,?_⟩;obtain⟨w5,hw5⟩:=eY (w4.setCell ⟨pp,4,none⟩ (.slice q4 (n+1) k4));rw[←hw5];have npp':pp∉jS (.slice qw p.W.length kw):=NE.out.2.2.2.1;have K5:Keep [pp] w4 w5:=by rw[hw5];exact(Keep.refl _ _).setCell (p:=⟨pp,4,none⟩) (.inl sI) _
  have K14:Keep (jS (.slice qw p.W.length kw)) w1 w4:=by rw[←EO.out];exact HK4.out
  have KA:Keep (pws pp bt bg (.slice qw p.W.length kw)) w w5:=((K1.out.mono (fun s r=>by simp at r;subst r;exact nK)).then (K14.mono fun s r=>Ka r)).then (K5.mono (fun s r=>by simp at r;subst r;exact nK));have n5:(n+1)=(p.W++[p.last+1]).length:=by rw[EN.out];simp
  have hw': ∀y∈jS (.slice q4 (n+1) k4),y∈jS (.slice qw p.W.length kw)∨(w.heap.size≤y∧y<w5.heap.size):=fun y hy=>by
   rcases HVN.out y hy with r|r
   ·rw[EO.out] at r;exact .inl r
   ·have:=K1.out.size
    have h2:y<w4.heap.size:=(HOWN.out.lt y (o7.1 hy)).2;have:=K5.size;exact .inr ⟨om,om⟩
  have k15: ∀{b:Nat},b≠pp→b∉jS (.slice qw p.W.length kw)→b∉[pp]:=fun h1 _ r=>by simp at r;exact h1 r
  refine HQ.out.putW (vw':=.slice q4 (n+1) k4) KA hw' ?_ ?_ ?_ ?_ rfl rfl HIN.out
  ·rw[hw5]
   have:=(L1.out.keep K14 npp').store 4 (.slice q4 (n+1) k4) (by simp[kS]);rw[EL.out] at this;exact this
  ·exact((HQ.out.b.t.keep K1.out (by simp;exact fun r=>NE.out.1 r.symm)).keep K14 NE.out.2.2.2.2.1).keep K5 (by simp;exact fun r=>NE.out.1 r.symm)
  ·have:=jQ HOWN.out K5 (fun s r t=>by
    simp at r;subst r;rcases HVN.out _ t with r|r
    ·rw[EO.out] at r;exact npp' r
    ·have:=K1.out.size;have:=(HQ.out.b.lim _ nK).2;omega)
   rw[←n5,show ints (p.W++[p.last+1])=ints p.W++[.int .i64 (L+1)] by rw[EL.out];simp[ints]];exact this
  ·exact((HQ.out.b.g.keep K1.out (by simp;exact fun r=>NE.out.2.1 r.symm)).keep K14 NE.out.2.2.2.2.2).keep K5 (by simp;exact fun r=>NE.out.2.1 r.symm)
def xR (p:Po) (k v:Int):Nat:=if mG p k=true∧vQ p v=true then 0 else 2
theorem wT (k v:Int) (h:PoX E X F pp p w):
 Calls prog 57 #[.pointer (some ⟨pp,0,none⟩),.int .i64 k,.int .i64 v] w fun r w'=>r= .returned (kM ev (xR p k v))∧Below w.heap.size w w':=by
 have HX:=ah h;obtain⟨⟨bt,bg,vr,vw,q⟩,hi⟩:=h;have HE:=ah (E.err.go (E.bel q.s));have c0:=q.b.c.gC 0;have cl:=q.b.c.lt;have WK:=ah (E.work q.s);have CA:=ah (E.cache q.s);have ZO:=ah (E.zone q.s);have FR:=ah (E.free v q.s);have e2:kM ev 2= .iface 336 (.pointer (some (ev 2))):=rfl;have gs:w.cell? ⟨1,0,none⟩=some (.iface 336 (.pointer (some (ev 2)))):=HE.out.cell 2 (by decide) (by decide);have gl:1<w.heap.size:=aC (HE.out.glob 2 (by decide) (by decide)) HE.out.size;unfold xR mG vQ;obtain⟨n,hn⟩:=eY p.d.H.length;obtain⟨m,hm⟩:=eY p.d.c.L.length;rw[←hn] at WK ⊢;rw[←hm] at FR ⊢;clear q hi hn hm;by_cases hk:0≤k∧k<n
 ·have d1:decide (k<0)=false:=dQf om
  have d2:decide ((n:Int)≤k)=false:=dQf om;have ec:(if decide (0≤k∧k<(n:Int))=true∧decide (0≤v∧v<(m:Int))=true then 0 else 2)=(if 0≤v∧v<(m:Int) then 0 else 2):=by simp[hk]
  rw[ec];obtain⟨r,hr⟩:=eY (kM ev (if 0≤v∧v<(m:Int) then 0 else 2));rw[←hr] at FR ⊢;clear hr ec hk;go_in
  go_wp2_with fail;refine WK.out.mono ?_;rintro r1 w1 ⟨rfl,rfl⟩;go_wp2_with fail;refine CA.out.mono ?_;rintro r1 w1 ⟨rfl,rfl⟩;go_wp2_with fail;refine ZO.out.mono ?_;rintro r1 w1 ⟨rfl,rfl⟩;go_wp2_with fail;refine FR.out.mono ?_;rintro r1 w1 ⟨⟨z,rfl⟩,hb1⟩;go_wp2;go_ret;exact⟨rfl,hb1⟩
 ·have ec:(if decide (0≤k∧k<(n:Int))=true∧decide (0≤v∧v<(m:Int))=true then 0 else 2)=2:=by simp[hk]
  rw[ec,e2];have hd:(k<0∧decide (k<0)=true)∨(¬k<0∧decide (k<0)=false∧decide ((n:Int)≤k)=true):=by
   by_cases h0:k<0
   ·exact .inl ⟨h0,dQt h0⟩
   ·exact .inr ⟨h0,dQf h0,dQt om⟩
  clear ec hk e2;rcases hd with⟨h0,d0⟩|⟨h0,d0,d1⟩
  ·go_in
   go_wp2;go_ret;exact⟨rfl,aL _ _⟩
  ·go_in
   go_wp2_with fail;refine WK.out.mono ?_;rintro r1 w1 ⟨rfl,rfl⟩;go_wp2;go_ret;exact⟨rfl,aL _ _⟩
theorem vR (h:PoX E X F pp p w):
 Calls prog 27 #[.pointer (some ⟨pp,0,none⟩)] w fun r w'=>(∃q k,r= .returned (.slice q p.W.length k)∧w'.ownsRow w.heap.size 3 1 (.slice q p.W.length k) p.W.length (ints p.W))∧Below w.heap.size w w':=by
 obtain⟨⟨bt,bg,vr,vw,q⟩,hi⟩:=h;have c4:=q.b.c.gC 4;have cl:=q.b.c.lt;have CL:=ah (Ck vw p.W w q.b.ow (by have:=hi.w;omega));obtain⟨qw,kw,rfl⟩:=l6 q.b.ow;obtain⟨n,hn⟩:=eY p.W.length;rw[←hn] at CL c4 ⊢;clear q hi hn;go_in
 go_wp2_with fail;refine CL.out.mono ?_;rintro r1 w1 ⟨q1,k1,rfl,ho,hb1⟩;go_wp2;go_ret;exact⟨⟨q1,k1,rfl,ho⟩,hb1⟩
end
