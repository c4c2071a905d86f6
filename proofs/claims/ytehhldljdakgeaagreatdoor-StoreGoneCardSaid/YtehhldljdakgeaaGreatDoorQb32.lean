/- Lemmas. -/
import Derived.Test.YtehhldljdakgeaaGreatDoorQb01
import Derived.Test.YtehhldljdakgeaaGreatDoorQb30
set_option linter.unusedSimpArgs false
set_option linter.unusedVariables false
set_option maxHeartbeats 16000000
set_option maxRecDepth 100000
namespace Go.Proofs.YtehhldljdakgeaaGreatDoor
open Go.RowKit Go.Maps Go.Proofs.Tryz
attribute [local go_sem ↓] aJ aK
section
open Go.RowKit Go.Maps Go.Sort Go.Shelf
theorem Xp (mb:Option Nat) (W:World):Calls prog 81 #[.map mb] W fun e w'=>e= .returned (.func (.func 116) #[] #[.pointer (some ⟨W.heap.size,0,none⟩)])∧w'=W.alloc (.cells #[.map mb] 158):=
 (callsIn_wide (n:=5)).1 (AnyZI.keys_in Tryz.keysS Fence.wide 5 trivial rfl mb W)
theorem Ki {H:Type} (b nn:Nat) (D0:DataW H) (R:Value→Option (DataW H×List MemPlace)) (w:World) (hown:w.ownsMap prog 3 R b nn D0) (hmax:Maps.size D0≤maxLen) (hbytes:Maps.size D0*8≤140737488355328):
 Calls prog 80 #[.func (.func 116) #[] #[.pointer (some ⟨w.heap.size,0,none⟩)]] (w.alloc (.cells #[.map (some b)] 158)) fun e w'=>∃(v:Value) (ss:List Int),e= .returned v∧ss.Perm (intKeys D0)∧
  w'.ownsRow (w.heap.size+1) 3 1 v ss.length ((ss.mergeSort (fun x y=>decide (x≤y))).map encZ)∧(v= .slice none 0 0↔ss=[])∧Below (w.heap.size+1) (w.alloc (.cells #[.map (some b)] 158)) w':=by
 have hbl:=hown.lt;have hseq:SeqGives Fence.wide 2 prog 116 #[.pointer (some ⟨w.heap.size,0,none⟩)] encZ (fun ss=>ss.Perm (intKeys D0)) (Maps.size D0) (w.alloc (.cells #[.map (some b)] 158)):=
  AnyZI.keys_gives (ρ:=Tryz.keysS_ren) {Tryz.keysS with} Fence.wide _ trivial rfl om w.heap.size b nn D0 _ sI sI (by
   obtain⟨es,clock,hb,Ft,hs,hD⟩:=hown;exact⟨es,clock,(Below.heap_alloc _ _ b hbl).trans hb,Ft,hs,hD⟩)
 have cS:=AnyZI.sorted_in Tryz.sortedA Fence.wide 5 trivial trivial trivial trivial rfl om (Tryz.sortsA _) (enters_of Tryz.func115 kR rfl) 116 #[.pointer (some ⟨w.heap.size,0,none⟩)] trivial (enters_of Tryz.func116 kR rfl) _ _ hmax hbytes _ hseq;change CallsIn _ _ prog 80 _ _ _ at cS;refine((callsIn_wide (n:=5)).1 cS).mono ?_;rintro e w' ⟨v,ss,rfl,hS,hrow,hnil,hb⟩;rw[World.size_alloc] at hrow hb;exact⟨v,ss,rfl,hS,hrow,hnil,hb⟩
theorem U4 {l ss:List Int} (h:l.Pairwise (· < ·)) (hp:ss.Perm l):ss.mergeSort (fun x y=>decide (x≤y))=l:=by
 have p1:(ss.mergeSort (fun x y=>decide (x≤y))).Perm l:=(List.mergeSort_perm _ _).trans hp;have s1:(ss.mergeSort (fun x y=>decide (x≤y))).Pairwise (fun x y:Int=>x≤y):=by
  have:=List.pairwise_mergeSort (le:=fun x y:Int=>decide (x≤y)) (fun a b c h1 h2=>by simp at*;omega) (fun a b=>by simp;omega) ss;exact this.imp fun h=>by simpa using h
 exact p1.eq_of_pairwise (fun a b _ _ h1 h2=>om) s1 (h.imp fun q=>om)
theorem qO.keys {w:World} {b:Nat} {L:List (Lit×Value)} {l:List Int} (h:qO prog 3 w b L) (hL:L.map (·.1)=l.map (Lit.int .i64)):
 ∃D,w.ownsMap prog 3 rTok b L.length D∧l.Perm (intKeys D)∧Maps.size D=L.length:=by
 obtain⟨D,h1,h2,h3,h4⟩:=h.own;obtain⟨es,rfl,q1,q2⟩:=h1.canon uV;have mem: ∀kl,WideAt.IsKeyLit kl→(has (.map es) kl=true↔kl∈L.map (·.1)):=fun kl hk=>by
  rw[h3 kl hk];constructor
  ·intro q
   obtain⟨v,hv⟩:=iy.1 q;exact bC.2 ⟨_,Cg hv,rfl⟩
  ·intro q
   obtain⟨p,hp,rfl⟩:=bC.1 q;cases hq:pG L p.1 with
   |some v=>rfl
   |none=>exact absurd rfl (EB hq p hp)
 refine⟨_,h1,perm_intKeys (apart_of_rising q1) (fun p hp=> ?_) ?_ (fun x=> ?_),h4⟩
 ·have:has (.map es) p.1=true:=by
   rw[has_eq,fA];exact⟨p,hp,WideAt.sameKey_self (q2 p hp)⟩
  have:=(mem p.1 (q2 p hp)).1 this;rw[hL] at this;obtain⟨x,_,hx⟩:=bC.1 this;exact⟨x,hx.symm⟩
 ·have:=h.nd
  rw[hL] at this;exact(jr.1 this).imp fun q r=>q (by rw[r])
 ·rw[mem (.int .i64 x) trivial,hL]
  constructor
  ·intro q;exact bC.2 ⟨x,q,rfl⟩
  ·intro q
   obtain⟨y,hy,e⟩:=bC.1 q;injection e with _ e;exact e▸hy
section
variable {pd pc pz e:Nat} {mn:Int} {O:List (List Int)} {ev:Nat→Addr} {w0:World} {E:sG pd pc pz e mn O ev w0} {X F S:List Nat} {w w':World} {ps pp sz:Nat} {s:St}
theorem Xq (hl:s.L.length≤65536) (h:(vI (kQ E pp) ps pp e sz).S X F s w):
 Calls prog 35 #[.pointer (some ⟨ps,0,none⟩)] w fun r w'=>∃v,r= .returned v∧w'.ownsRow w.heap.size 3 1 v s.L.length (ints (s.L.map (·.id)))∧Below w.heap.size w w':=by
 obtain⟨⟨⟨bl,C⟩,q⟩,hi⟩:=h;have c2:=q.b.c.gC 2;have cl:=q.b.c.lt;have hm:=q.b.m;have eL:(Da C).length=s.L.length:=by rw[←q.b.l];simp[Da]
 obtain⟨D,h1,h2,h3⟩:=hm.keys (l:=s.L.map (·.id)) (by rw[←q.b.l];unfold Da;simp);have so:=Ki bl _ D _ w h1 (by rw[h3,eL];unfold maxLen;omega) (by rw[h3,eL];omega);have SO:=ah so;have HP:=ah h2;have HA:=ah hi.asc;have hlen:s.L.length=(s.L.map (·.id)).length:=sI;obtain⟨l,hl'⟩: ∃l,l=s.L.map (·.id):=⟨_,rfl⟩;rw[←hl'] at hlen HP HA ⊢;rw[hlen];clear q hi h1 h2 h3 so eL hm hlen hl' hl;go_in
 go_wp2_with fail;refine(Xp _ _).mono ?_;rintro e w' ⟨rfl,rfl⟩;go_wp2_with fail;refine SO.out.mono ?_;rintro e w1 ⟨v,ss,rfl,hp,hrow,hnil,hb1⟩;rw[U4 HA.out (hp.trans HP.out.symm),(hp.trans HP.out.symm).length_eq] at hrow;have hb1':Below w.heap.size w w1:=fG (by exact jY) (hb1.mono om);have HR:=ah (qB hrow (Nat.le_succ _));clear hnil hp SO hrow hb1;go_wp2;go_ret;exact⟨_,rfl,HR.out,hb1'⟩
end
end
