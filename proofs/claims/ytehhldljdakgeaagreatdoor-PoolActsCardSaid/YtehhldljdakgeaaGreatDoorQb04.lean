/- Lemmas. -/
import Derived.Test.YtehhldljdakgeaaGreatDoorQb01
import Derived.Test.YtehhldljdakgeaaGreatDoorQb03
set_option linter.unusedSimpArgs false
set_option linter.unusedVariables false
set_option maxHeartbeats 16000000
set_option maxRecDepth 100000
namespace Go.Proofs.YtehhldljdakgeaaGreatDoor
open Go.RowKit Go.Maps Go.Proofs.Tryz
attribute [local go_sem ↓] aJ aK
section
open Go.Maps
def toD {H:Type} (l:List (Int×Int)):DataW H:=.map (l.map fun p=>(.int .i64 p.1,.lit (.int .i64 p.2)))
theorem xA (a b:Int):(Lit.int .i64 a).sameKey (.int .i64 b)=(a==b):=by
 simp only[Lit.sameKey];by_cases h:a=b<;>simp[h]
theorem Fy {H:Type} (l:List (Int×Int)):size (toD l:DataW H)=l.length:=by simp[toD,size]
theorem UF {H:Type} (l:List (Int×Int)) (a:Int):(toD l:DataW H).del (.int .i64 a)=toD (tZ a l):=by
 simp only[toD,DataW.del,tZ,iF,DataW.map.injEq];congr 1
 refine jq fun p _=> ?_
 simp only[Function.comp,xA];rfl
theorem toD_has {H:Type} (l:List (Int×Int)) (a:Int):has (toD l:DataW H) (.int .i64 a)=(zX l a).isSome:=by
 induction l with
 |nil=>rfl
 |cons p r ih=>
  simp only[toD,has_eq,bH,List.any_cons,xA] at ih ⊢;rw[ih,pY];by_cases h:p.1=a<;>simp[h]
theorem toD_at {H:Type} (l:List (Int×Int)) (a:Int) (z:DataW H):(toD l:DataW H).atKey (.int .i64 a) z=match zX l a with|some k=>.lit (.int .i64 k)|none=>z:=by
 induction l with
 |nil=>rfl
 |cons p r ih=>
  simp only[toD,DataW.atKey,bH,fU,xA] at ih ⊢;rw[pY];by_cases h:p.1=a
  ·simp[h]
  ·have hf:(p.1==a)=false:=by simpa using h
   simp only[hf,if_neg h];exact ih
theorem Eb {l:List (Int×Int)} {a:Int} (h: ∀p∈l,p.1≠a):tZ a l=l:=dN.2 fun p hp=>by simpa using h p hp
theorem Ec {H:Type}: ∀{l:List (Int×Int)} (a k:Int),Asc l→
 DataW.insert (.int .i64 a,(.lit (.int .i64 k):DataW H)) ((tZ a l).map fun p=>(.int .i64 p.1,.lit (.int .i64 p.2)))=(rC a k l).map fun p=>(.int .i64 p.1,.lit (.int .i64 p.2))
 |[],a,k,_=>rfl
 |p::r,a,k,h=>by
  obtain⟨h1,h2⟩:=bN.1 h;unfold rC;by_cases c1:a<p.1
  ·rw[if_pos c1,Eb (fun q hq=>by rcases aB.1 hq with rfl|hq;(·omega);(·have:=h1 q hq;omega))]
   simp[DataW.insert,Lit.before,c1]
  ·rw[if_neg c1]
   by_cases c2:a=p.1
   ·rw[if_pos c2]
    have e:tZ a (p::r)=r:=by
     have:tZ a (p::r)=tZ a r:=by simp[tZ,c2]
     rw[this,Eb (fun q hq=>by have:=h1 q hq;omega)]
    rw[e];cases r with
    |nil=>rfl
    |cons q s=>
     have:=h1 q sI;have c3:a<q.1:=om;simp[DataW.insert,Lit.before,c3]
   ·rw[if_neg c2]
    have e:tZ a (p::r)=p::tZ a r:=by
     have: ¬p.1=a:=fun x=>c2 x.symm
     simp[tZ,this]
    rw[e];simp only[bH,DataW.insert,Lit.before,c1,decide_false,fK,if_false];rw[Ec a k h2]
theorem toD_put {H:Type} {l:List (Int×Int)} (h:Asc l) (a k:Int):(toD l:DataW H).put (.int .i64 a) (.lit (.int .i64 k))=toD (rC a k l):=by
 have e:=UF (H:=H) l a;simp only[toD,DataW.del,DataW.map.injEq] at e;simp only[toD,DataW.put,DataW.map.injEq];rw[e];exact Ec a k h
theorem toD_keys {H:Type} (l:List (Int×Int)):Go.intKeys (toD l:DataW H)=l.map (·.1):=by
 simp[toD,Go.intKeys,Go.intOf]
end
section
open Go.RowKit Go.Maps Go.Sort Go.Shelf
theorem Tryz.sortsA (m:Nat):AnyZI.SortsIn prog Tryz.sortedA_ren Fence.wide m:=
 ⟨fun blk off cap ss W hH hblk hsz=>callsIn_wide.2 (AnyM.slices_Sort_int Tryz.sortA blk off cap ss W hH hblk hsz),
  fun p cap W=>callsIn_wide.2 (AnyM.slices_Sort_int_none Tryz.sortA p cap W)⟩
theorem keys_any (mb:Option Nat) (W:World):Calls prog 204 #[.map mb] W fun e w'=>e= .returned (.func (.func 209) #[] #[.pointer (some ⟨W.heap.size,0,none⟩)])∧w'=W.alloc (.cells #[.map mb] 232):=
 (callsIn_wide (n:=5)).1 (AnyZI.keys_in Tryz.keysA Fence.wide 5 trivial rfl mb W)
theorem Si {H:Type} (b nn:Nat) (D0:DataW H) (R:Value→Option (DataW H×List MemPlace)) (w:World) (hown:w.ownsMap prog 3 R b nn D0) (hmax:Maps.size D0≤maxLen) (hbytes:Maps.size D0*8≤140737488355328):
 Calls prog 80 #[.func (.func 209) #[] #[.pointer (some ⟨w.heap.size,0,none⟩)]] (w.alloc (.cells #[.map (some b)] 232)) fun e w'=>∃(v:Value) (ss:List Int),e= .returned v∧ss.Perm (intKeys D0)∧
  w'.ownsRow (w.heap.size+1) 3 1 v ss.length ((ss.mergeSort (fun x y=>decide (x≤y))).map encZ)∧(v= .slice none 0 0↔ss=[])∧Below (w.heap.size+1) (w.alloc (.cells #[.map (some b)] 232)) w':=by
 have hbl:=hown.lt;have hseq:SeqGives Fence.wide 2 prog 209 #[.pointer (some ⟨w.heap.size,0,none⟩)] encZ (fun ss=>ss.Perm (intKeys D0)) (Maps.size D0) (w.alloc (.cells #[.map (some b)] 232)):=
  AnyZI.keys_gives (ρ:=Tryz.keysA_ren) {Tryz.keysA with} Fence.wide _ trivial rfl om w.heap.size b nn D0 _ sI sI (by
   obtain⟨es,clock,hb,Ft,hs,hD⟩:=hown;exact⟨es,clock,(Below.heap_alloc _ _ b hbl).trans hb,Ft,hs,hD⟩)
 have cS:=AnyZI.sorted_in Tryz.sortedA Fence.wide 5 trivial trivial trivial trivial rfl om (Tryz.sortsA _) (enters_of Tryz.func115 kR rfl) 209 #[.pointer (some ⟨w.heap.size,0,none⟩)] trivial (enters_of Tryz.func209 kR rfl) _ _ hmax hbytes _ hseq;change CallsIn _ _ prog 80 _ _ _ at cS;refine((callsIn_wide (n:=5)).1 cS).mono ?_;rintro e w' ⟨v,ss,rfl,hS,hrow,hnil,hb⟩;rw[World.size_alloc] at hrow hb;exact⟨v,ss,rfl,hS,hrow,hnil,hb⟩
end
structure Dh (w:World) (b:Nat) (l:List (Int×Int)):Prop where
 asc:Asc l
 own:w.ownsMap (H:=Unit) prog 3 (plainElem prog 3) b l.length (toD l)
 few:l.length≤256
 rng: ∀p∈l,0≤p.1∧p.1<256∧0≤p.2∧p.2≤6
theorem uV:Keyed prog 3:=int_keyed bB
theorem Jo {l:List (Int×Int)} (h:Asc l) {ss:List Int} (hp:ss.Perm (l.map (·.1))):ss.mergeSort (fun x y=>decide (x≤y))=l.map (·.1):=by
 have p1:(ss.mergeSort (fun x y=>decide (x≤y))).Perm (l.map (·.1)):=(List.mergeSort_perm _ _).trans hp;have s1:(ss.mergeSort (fun x y=>decide (x≤y))).Pairwise (fun x y:Int=>x≤y):=by
  have:=List.pairwise_mergeSort (le:=fun x y:Int=>decide (x≤y)) (fun a b c h1 h2=>by simp at*;omega) (fun a b=>by simp;omega) ss;exact this.imp fun h=>by simpa using h
 have s2:(l.map (·.1)).Pairwise (fun x y:Int=>x≤y):=by
  rw[jr];exact List.Pairwise.imp (fun h=>om) h
 exact p1.eq_of_pairwise (fun a b _ _ h1 h2=>om) s1 s2
theorem zeroInt (w:World):(zeroValue 3).run prog w= .ok (.int .i64 0) w:=kR
theorem wfInt {a:Int} (h0:0≤a) (h1:a<256):(Lit.int .i64 a).wf=true:=by
 simp[Lit.wf,IntKind.min,IntKind.max,IntKind.signed,IntKind.bits];omega
theorem look_in {w:World} {b:Nat} {l:List (Int×Int)} (h:Dh w b l) {a k:Int} (hak:(a,k)∈l):(Instr.lookup 232 (.map (some b)) (.int .i64 a) false).run prog w= .ok (.int .i64 k) w:=by
 have hr:=h.rng _ hak;obtain⟨c,hrun,hat,_⟩:=h.own.lookup_int uV iE bB (zeroInt w) (keyOf_int_mk bB (wfInt hr.1 hr.2.1));rw[toD_at,Am h.asc hak] at hat;simp at hat;rw[hrun,hat]
theorem Dh.below {w w':World} {n b:Nat} {l:List (Int×Int)} (h:Dh w b l) (hb:Below n w w') (hn:b<n):Dh w' b l:=
 ⟨h.asc,by
   obtain⟨es,clock,h1,h2,h3,h4⟩:=h.own;exact⟨es,clock,by rw[hb.block _ hn];exact h1,h2,h3,h4⟩,h.few,h.rng⟩
theorem qB {w:World} {base base':Nat} {e:TypeId} {size:Nat} {v:Value} {n:Nat} {xs:List Value} (h:w.ownsRow base e size v n xs) (hb:base'≤base):w.ownsRow base' e size v n xs:=by
 refine⟨h.1,?_⟩;rcases h.2 with hn|⟨g,cap,cur,hv,hbg,rest⟩
 ·exact .inl hn
 ·exact .inr ⟨g,cap,cur,hv,om,rest⟩
theorem Bh (b:Nat) (l:List (Int×Int)) (w:World) (hm:Dh w b l):
 Calls prog 190 #[.map (some b)] w fun e w'=>∃v,e= .returned v∧PI w w' v l:=by
 obtain⟨i0,hi,hz0,hz1,hz2⟩:=info_parts infoB;have hbl:=hm.own.lt;have zY:=hm.few;have so:=Si b _ (toD l) _ w hm.own (by rw[Fy];unfold maxLen;omega) (by rw[Fy];omega);simp only[toD_keys] at so;have SO:=ah so;have HM:=ah hm;clear so hm;go_in
 go_wp2_with fail;refine(keys_any _ _).mono ?_;rintro e w' ⟨rfl,rfl⟩;go_wp2_with fail;refine SO.out.mono ?_;rintro e w1 ⟨v,ss,rfl,hp,hrow,hnil,hb1⟩;rw[Jo HM.out.asc hp,show ss.length=l.length from by rw[hp.length_eq];simp] at hrow;clear hnil hp SO;have hb1':Below w.heap.size w w1:=fG (by exact jY) (hb1.mono om);have z1:=hb1'.size;have hrow':=hrow;obtain⟨_,h2⟩:=hrow;rcases h2 with⟨rfl,h3⟩|⟨g,cap,cur,rfl,hg,hh,_⟩
 ·have el:l=[]:=by cases l with|nil=>rfl|cons p r=>simp at h3
  subst el;go_wp2_with fail;refine wp_loop_rounds 1 ?_;rw[rounds_succ];go_wp2;go_ret;exact⟨_,rfl,aT _ _ _ _,hb1'⟩
 ·have hgl:=(hrow'.lt g rfl)
  have C:=ah hrow';clear hrow' hh;obtain⟨n,hn⟩:=eY l.length;rw[←hn] at zY ⊢;have HN:=ah hn;clear hn;go_wp2_with fail;go_loopw [3,10] (fun v i wr=>∃j:Nat,j≤n∧i= .int .i64 j∧wr.ownsRow w1.heap.size 213 2 v j (l8 (l.take j))∧Below w1.heap.size w1 wr) (fun _ i _=>n-(intOf i).toNat);case atStart=>exact⟨0,bq _,rfl,aT _ _ _ _,aL _ _⟩
  case round=>
   obtain⟨j,hj,rfl,hown,hbel⟩:=hrel;by_cases hlt:j<n
   ·have hjl:j<l.length:=by rw[←HN.out];exact hlt
    obtain⟨p,hp⟩: ∃p,l[j]?=some p:=⟨l[j]'hjl,aA _⟩;obtain⟨x,k⟩:=p;have hmem:(x,k)∈l:=aF hp;have hrg:=HM.out.rng _ hmem;have r1:wr.cell? ⟨g,j,none⟩=some (.int .i64 x):=by
     rw[hbel.cell (p:=⟨g,j,none⟩) hgl.2,C.out.cellAt j (by simp;omega)];simp[hp]
    have hbw:Below w.heap.size w wr:=hb1'.trans (hbel.mono z1);have lk:=look_in (HM.out.below hbw hbl) hmem;have htk:l8 (l.take (j+1))=l8 (l.take j)++[.int .i64 x,.int .i64 k]:=by
     rw[bR,hp];exact lY _ _
    have TK:=ah htk;clear htk hp hmem hjl;go_wp2_with (first|(at_builtin;refine wpList_append_own _ rfl _ _ 235 rfl w1.heap.size 213 i0 (.agg #[.int .i64 0,.int .i64 0]) 2 16 gM hi hz0 hz1 hz2 rfl (by decide) _ _ _ rfl (hown.alloc _) ⟨wr.heap.size,0,none⟩ 1 1 [.int .i64 x,.int .i64 k] rfl rfl (oK _ _ _ _) (oL _ _) ?c3 ?c4 ?c5 ?_));case c3=>unfold maxLen;omega
    case c4=>omega
    case c5=>have:=hbel.size;simp;omega
    intro v' w2 hown' hgrow _;have Jm:Below w1.heap.size w1 w2:=(hbel.alloc hbel.size _).grown hgrow (by have:=hbel.size;simp;omega) (fun r hr=>(hown.lt r hr).1);have OW:=ah hown';clear hown' hgrow hown hbel;go_wp2;go_roundw;case rel=>exact⟨j+1,om,by go_num,by rw[TK.out];exact(show w2.ownsRow _ _ _ _ _ _ by simpa using OW.out),Jm⟩
    case measure=>simp[intOf];omega
   ·have e:j=n:=by omega
    subst e;go_wp2;go_ret;exact⟨_,rfl,by rw[HN.out,bU] at hown;rw[HN.out];exact qB hown z1,hb1'.trans (hbel.mono z1)⟩
structure Bud (w:World) (pb:Nat) (n:Int) (bf bt:Nat) (F T:List (Int×Int)):Prop where
 c0:w.cell? ⟨pb,0,none⟩=some (.int .i64 n)
 c1:w.cell? ⟨pb,1,none⟩=some (.map (some bf))
 c2:w.cell? ⟨pb,2,none⟩=some (.map (some bt))
 free:Dh w bf F
 taken:Dh w bt T
 ne:bf≠bt∧pb≠bf∧pb≠bt
theorem free_ok (pb:Nat) (n:Int) (bf bt:Nat) (F T:List (Int×Int)) (w:World) (h:Bud w pb n bf bt F T):
 Calls prog 164 #[.pointer (some ⟨pb,0,none⟩)] w fun e w'=>∃v,e= .returned v∧PI w w' v F:=by
 have c1:=h.c1;have SO:=ah (Bh bf F w h.free);clear h;go_in
 go_wp2_with fail;refine SO.out.mono ?_;rintro e w' ⟨v,rfl,ho⟩;go_wp2;go_ret;exact⟨_,rfl,ho⟩
def hasL (T:List (Int×Int)) (a k:Int):Bool:=zX T a==some k
theorem yF {H:Type} (x:Lit×DataW H): ∀l:List (Lit×DataW H),(DataW.insert x l).length=l.length+1
 |[]=>rfl
 |y::r=>by
  unfold DataW.insert;split
  ·simp
  ·simp[yF x r]
theorem zZ {H:Type}: ∀l:List (Lit×DataW H),(l.foldr DataW.insert []).length=l.length
 |[]=>rfl
 |x::r=>by simp[yF,zZ r]
theorem GI {w:World} {b n:Nat} {k:TypeId} {R:Value→Option (DataW Unit×List MemPlace)} {l:List (Int×Int)} (h:w.ownsMap prog k R b n (toD l)):w.ownsMap prog k R b l.length (toD l):=by
 obtain⟨es,clock,hb,F,_,hD⟩:=h;refine⟨es,clock,hb,F,?_,hD⟩;have:=congrArg size hD;rw[Fy,size_eq,zZ] at this;simp at this;omega
theorem Dh.put {w:World} {b:Nat} {l:List (Int×Int)} (h:Dh w b l) {a k:Int} (hr:0≤a∧a<256∧0≤k∧k≤6) (hf:(rC a k l).length≤256):
 ∃w',(Instr.mapUpdate 232 (.map (some b)) (.int .i64 a) (.int .i64 k)).run prog w= .ok () w'∧Dh w' b (rC a k l)∧w.grownBy w' (some b):=by
 obtain⟨w',hrun,hown,hg⟩:=h.own.update uV iE (by have:=h.few;unfold maxLen;omega) (keyOf_int_mk bB (wfInt hr.1 hr.2.1)) (plainElem_int bB (wfInt hr.2.2.1 om));rw[toD_put h.asc] at hown;refine⟨w',hrun,⟨h.asc.put a k,GI hown,hf,fun p hp=> ?_⟩,hg⟩;rcases Fq hp with rfl|hp
 ·exact hr
 ·exact h.rng p hp
theorem Dh.drop {w:World} {b:Nat} {l:List (Int×Int)} (h:Dh w b l) {a:Int} (ha:(Lit.int .i64 a).wf=true) (ty:TypeId):
 ∃w',(Builtin.delete_ #[232,3] ty #[.map (some b),.int .i64 a]).run prog w= .ok (.tuple #[]) w'∧Dh w' b (tZ a l)∧w.mapTurned w' b:=by
 obtain⟨w',hrun,hown,hg⟩:=h.own.drop uV iE (keyOf_int_mk bB ha) ty;rw[UF] at hown;have hle:(tZ a l).length≤l.length:=List.length_filter_le _ _;exact⟨w',hrun,⟨h.asc.del a,GI hown,bW hle h.few,fun p hp=>h.rng p (Pm.1 hp).1⟩,hg⟩
def Bj (a b:Int):Int:=if a<b then-1 else if b<a then 1 else 0
theorem Bl (a:Int) (w:World):Calls prog 152 #[.int .i64 a] w fun e w'=>e= .returned (.bool false)∧w=w':=by
 go_in
 go_wp2;go_ret;exact⟨sI,rfl⟩
theorem xY (a b:Int) (w:World):Calls prog 123 #[.int .i64 a,.int .i64 b] w fun e w'=>e= .returned (.int .i64 (Bj a b))∧w=w':=by
 unfold Bj;by_cases h1:a<b
 ·rw[if_pos h1]
  go_in
  go_wp2_with (go_at_call 152;refine(Bl _ _).mono ?_;rintro e w' ⟨rfl,rfl⟩);go_ret;exact⟨rfl,rfl⟩
 ·rw[if_neg h1]
  by_cases h2:b<a
  ·rw[if_pos h2]
   go_in
   go_wp2_with (go_at_call 152;refine(Bl _ _).mono ?_;rintro e w' ⟨rfl,rfl⟩);go_ret;exact⟨rfl,rfl⟩
  ·rw[if_neg h2]
   go_in
   go_wp2_with (go_at_call 152;refine(Bl _ _).mono ?_;rintro e w' ⟨rfl,rfl⟩);go_ret;exact⟨rfl,rfl⟩
theorem wH (a k o:Int) (c:Nat) (w:World) (hc:w.cell? ⟨c,0,none⟩=some (.int .i64 o)) (hl:c<w.heap.size):
 Calls prog 191 #[.agg #[.int .i64 a,.int .i64 k],.pointer (some ⟨c,0,none⟩)] w fun e w'=>e= .returned (.bool (decide (k<o)))∧Below w.heap.size w w':=by
 go_in
 go_wp2;go_ret;exact⟨rfl,jY⟩
theorem UG (a k b m:Int) (w:World):
 Calls prog 193 #[.agg #[.int .i64 a,.int .i64 k],.agg #[.int .i64 b,.int .i64 m]] w fun e w'=>e= .returned (.int .i64 (Bj k m))∧Below w.heap.size w w':=by
 go_in
 go_wp2_with (go_at_call 123;refine(xY _ _ _).mono ?_;rintro e w' ⟨rfl,rfl⟩);go_ret;exact⟨rfl,jY⟩
def GJ (c:Nat):Value:=.func (.func 191) #[] #[.pointer (some ⟨c,0,none⟩)]
theorem idx_some (g cap c i:Nat) (o:Int) (F:List (Int×Int)) (z:Int×Int) (w:World) (hF:Bg w g F) (hg:g<w.heap.size) (hl:F.length≤256) (hc:w.cell? ⟨c,0,none⟩=some (.int .i64 o)) (hcl:c<w.heap.size)
 (hz:F[i]?=some z) (hp:z.2<o) (hall: ∀x∈F.take i,¬x.2<o):
 Calls prog 195 #[.slice (some ⟨g,0,none⟩) F.length cap,GJ c] w fun e w'=>e= .returned (.int .i64 i)∧Below w.heap.size w w':=by
 have hil:=(au.1 hz).1;have HF:=ah hF;have HZ:=ah hz;have HA:=ah hall;have HP:=ah hp;clear hF hz hall hp;obtain⟨n,hn⟩:=eY F.length;rw[←hn] at hl hil ⊢;have HN:=ah hn;clear hn;unfold GJ;go_in
 go_wp2_with fail;go_loopw [5,8] (fun _ iv wr=>∃j:Nat,j≤i∧iv= .int .i64 j∧Below w.heap.size w wr) (fun _ iv _=>n-(intOf iv).toNat);case atStart=>exact⟨0,bq _,rfl,aL _ _⟩
 case round=>
  obtain⟨j,hj,rfl,hbel⟩:=hrel;have hjn:j<n:=om;obtain⟨y,hy⟩: ∃y,F[j]?=some y:=⟨F[j]'(by rw[←HN.out];exact hjn),aA _⟩;obtain⟨x,k⟩:=y;obtain⟨⟨p1,p2⟩,_,_⟩:=HF.out j x k hy;have r1:wr.cell? ⟨g,j*2,none⟩=some (.int .i64 x):=(hbel.cell (p:=⟨g,j*2,none⟩) hg).trans p1;have r2:wr.cell? ⟨g,j*2+1,none⟩=some (.int .i64 k):=(hbel.cell (p:=⟨g,j*2+1,none⟩) hg).trans p2;have rc:wr.cell? ⟨c,0,none⟩=some (.int .i64 o):=(hbel.cell (p:=⟨c,0,none⟩) hcl).trans hc;have zr:=hbel.size;by_cases e:j=i
  ·subst e
   have hk:decide (k<o)=true:=dQt (by have:=HP.out;have e2:=aO (hy.symm.trans HZ.out);rw[←e2] at this;exact this);clear p1 p2 hy;go_wp2_with fail;refine(wH _ _ _ _ _ rc om).mono ?_;rw[hk];rintro e w1 ⟨rfl,hb1⟩;go_wp2;go_ret;exact⟨rfl,jY⟩
  ·have hk:decide (k<o)=false:=dQf (by have:=HA.out (x,k) (aF (i:=j) (by rw[dH om];exact hy));simp only at this;omega)
   clear p1 p2 hy;go_wp2_with fail;refine(wH _ _ _ _ _ rc om).mono ?_;rw[hk];rintro e w1 ⟨rfl,hb1⟩;go_wp2;go_roundw;case rel=>exact⟨j+1,om,by go_num,hbel.trans (hb1.mono zr)⟩
   case measure=>simp[intOf];omega
theorem idx_none (g cap c:Nat) (o:Int) (F:List (Int×Int)) (w:World) (hF:Bg w g F) (hg:g<w.heap.size) (hl:F.length≤256) (hc:w.cell? ⟨c,0,none⟩=some (.int .i64 o)) (hcl:c<w.heap.size)
 (hall: ∀x∈F,¬x.2<o):
 Calls prog 195 #[.slice (some ⟨g,0,none⟩) F.length cap,GJ c] w fun e w'=>e= .returned (.int .i64 (-1))∧Below w.heap.size w w':=by
 have HF:=ah hF;have HA:=ah hall;clear hF hall;obtain⟨n,hn⟩:=eY F.length;rw[←hn] at hl ⊢;have HN:=ah hn;clear hn;unfold GJ;go_in
 go_wp2_with fail;go_loopw [5,8] (fun _ iv wr=>∃j:Nat,j≤n∧iv= .int .i64 j∧Below w.heap.size w wr) (fun _ iv _=>n-(intOf iv).toNat);case atStart=>exact⟨0,bq _,rfl,aL _ _⟩
 case round=>
  obtain⟨j,hj,rfl,hbel⟩:=hrel;by_cases hjn:j<n
  ·obtain⟨y,hy⟩: ∃y,F[j]?=some y:=⟨F[j]'(by rw[←HN.out];exact hjn),aA _⟩
   obtain⟨x,k⟩:=y;obtain⟨⟨p1,p2⟩,_,_⟩:=HF.out j x k hy;have r1:wr.cell? ⟨g,j*2,none⟩=some (.int .i64 x):=(hbel.cell (p:=⟨g,j*2,none⟩) hg).trans p1;have r2:wr.cell? ⟨g,j*2+1,none⟩=some (.int .i64 k):=(hbel.cell (p:=⟨g,j*2+1,none⟩) hg).trans p2;have rc:wr.cell? ⟨c,0,none⟩=some (.int .i64 o):=(hbel.cell (p:=⟨c,0,none⟩) hcl).trans hc;have zr:=hbel.size;have hk:decide (k<o)=false:=dQf (by have:=HA.out (x,k) (aF hy);simp only at this;omega);clear p1 p2 hy;go_wp2_with fail;refine(wH _ _ _ _ _ rc om).mono ?_;rw[hk];rintro e w1 ⟨rfl,hb1⟩;go_wp2;go_roundw;case rel=>exact⟨j+1,om,by go_num,hbel.trans (hb1.mono zr)⟩
   case measure=>simp[intOf];omega
  ·go_wp2
   go_ret;exact⟨rfl,hbel⟩
theorem fitL_all {o:Int} {F:List (Int×Int)} (h: ∀x∈F,¬x.2<o):Df o F=F:=dN.2 fun x hx=>by simp;have:=h x hx;omega
theorem Bn (o:Int): ∀F:List (Int×Int),(∀x∈F,¬x.2<o)∨∃i z,F[i]?=some z∧z.2<o∧∀x∈F.take i,¬x.2<o
 |[]=>.inl fun x h=>by cases h
 |y::r=>by
  by_cases h:y.2<o
  ·exact .inr ⟨0,y,rfl,h,fun x hx=>by simp at hx⟩
  ·rcases Bn o r with h1|⟨i,z,h1,h2,h3⟩
   ·refine .inl fun x hx=> ?_
    rcases aB.1 hx with rfl|hx
    ·exact h
    ·exact h1 x hx
   ·refine .inr ⟨i+1,z,by simpa using h1,h2,fun x hx=> ?_⟩
    rw[aQ] at hx;rcases aB.1 hx with rfl|hx
    ·exact h
    ·exact h3 x hx
theorem zeroB: ∀w:World,(zeroValue 213).run prog w= .ok (.agg #[.int .i64 0,.int .i64 0]) w:=fun _=>kR
def zs2 (n:Nat):List Value:=(Builtin.zeroCells #[.int .i64 0,.int .i64 0] n).toList
theorem Ed (n:Nat):(zs2 n).length=n*2:=by simp[zs2,Builtin.zeroCells]
theorem zs2_one (n:Nat): ∀v∈zs2 n,v.oneCell'=true:=by
 intro v hv;simp only[zs2,Builtin.zeroCells,Array.toList_map,bC] at hv;obtain⟨i,_,rfl⟩:=hv;have:i % 2=0∨i % 2=1:=om;rcases this with e|e<;>simp[e]<;>rfl
theorem Sj (w:World) (ty:TypeId) (b o n c:Nat) (hn:0<n) (hc: ∀j,j<n*2→(w.cell? ⟨b,o+j,none⟩).isSome=true) (hf: ∀j,j<n*2→w.frozen? ⟨b,o+j,none⟩=false):
 (Builtin.clear_ #[235] ty #[.slice (some ⟨b,o,none⟩) n c]).run prog w= .ok (.tuple #[]) (w.setCells b o (zs2 n)):=by
 have hst:=run_storeCells_cells (P:=prog) b o (zs2 n) 0 w (by rw[Ed];simpa using hc) (by rw[Ed];simpa using hf) (zs2_one n);simp only[gP] at hst;obtain⟨m,rfl⟩: ∃m,n=m+1:=⟨n-1,om⟩;have hz:(Value.agg #[.int .i64 0,.int .i64 0]).cells=#[.int .i64 0,.int .i64 0]:=rfl;simp[Builtin.clear_,run_underlying gM,zeroB,hz];rw[show(Builtin.zeroCells #[.int .i64 0,.int .i64 0] (m+1)).toList=zs2 (m+1) from rfl,hst];rfl
theorem Bg.cells {w:World} {g:Nat} {l:List (Int×Int)} (h:Bg w g l) {o:Nat} (ho:o<l.length*2):(w.cell? ⟨g,o,none⟩).isSome=true∧w.frozen? ⟨g,o,none⟩=false:=by
 have hj:o / 2<l.length:=om;obtain⟨p,hp⟩: ∃p,l[o / 2]?=some p:=⟨l[o / 2],aA _⟩;obtain⟨a,k⟩:=p;obtain⟨⟨h1,h2⟩,h3,h4⟩:=h _ a k hp;have:o=o / 2*2∨o=o / 2*2+1:=om;rcases this with e|e
 ·rw[e];exact⟨by rw[h1];rfl,h3⟩
 ·rw[e];exact⟨by rw[h2];rfl,h4⟩
theorem Bg.cut {w:World} {g:Nat} {l:List (Int×Int)} (h:Bg w g l) (i:Nat) (vs:List Value):Bg (w.setCells g (i*2) vs) g (l.take i):=by
 intro j a k hj;have hji:j<i:=by
  have:=(au.1 hj).1;rw[bD] at this;omega
 rw[dH hji] at hj;obtain⟨⟨h1,h2⟩,h3,h4⟩:=h j a k hj;rw[iw _ _ _ _ _ (fun _ _=>.inl (by show j*2<i*2;omega)),iw _ _ _ _ _ (fun _ _=>.inl (by show j*2+1<i*2;omega)),jA,jA];exact⟨⟨h1,h2⟩,h3,h4⟩
theorem Keep.setCells {S:List Nat} {a:World} (b:Nat) (hb:b∈S∨a.heap.size≤b): ∀(vs:List Value) (o:Nat) {w:World},Keep S a w→Keep S a (w.setCells b o vs)
 |[],_,_,h=>h
 |v::r,o,_,h=>Keep.setCells b hb r (o+1) (h.setCell (p:=⟨b,o,none⟩) hb v)
theorem UH (g cap c:Nat) (o:Int) (F:List (Int×Int)) (w:World) (hF:Bg w g F) (hg:g<w.heap.size) (hl:F.length≤256) (hc:w.cell? ⟨c,0,none⟩=some (.int .i64 o)) (hcl:c<w.heap.size)
 (hall: ∀x∈F,¬x.2<o):
 Calls prog 189 #[.slice (some ⟨g,0,none⟩) F.length cap,GJ c] w fun e w'=>e= .returned (.slice (some ⟨g,0,none⟩) (Df o F).length cap)∧Bg w' g (Df o F)∧Keep [g] w w':=by
 have I:=ah (idx_none g cap c o F w hF hg hl hc hcl hall);rw[fitL_all hall];have HF:=ah hF;have HA:=ah hall;clear hF hall hc;obtain⟨n,hn⟩:=eY F.length;rw[←hn] at hl I ⊢;clear hn;unfold GJ at*
 go_in
 go_wp2_with fail;refine I.out.mono ?_;rintro e w1 ⟨rfl,hb1⟩;go_wp2;go_ret;exact⟨rfl,HF.out.keep (Keep.of (S:=[]) hb1) hg sI,Keep.of hb1⟩
theorem UJ (g cap c i0:Nat) (o:Int) (F:List (Int×Int)) (z:Int×Int) (w:World) (hF:Bg w g F) (hg:g<w.heap.size) (hl:F.length≤256) (hcap:F.length≤cap) (hc:w.cell? ⟨c,0,none⟩=some (.int .i64 o)) (hcl:c<w.heap.size) (hcg:c≠g)
 (hz:F[i0]?=some z) (hp:z.2<o) (hall: ∀x∈F.take i0,¬x.2<o):
 Calls prog 189 #[.slice (some ⟨g,0,none⟩) F.length cap,GJ c] w fun e w'=>e= .returned (.slice (some ⟨g,0,none⟩) (Df o F).length cap)∧Bg w' g (Df o F)∧Keep [g] w w':=by
 have I:=ah (idx_some g cap c i0 o F z w hF hg hl hc hcl hz hp hall);have D0:=ah (uI.start (p:=fun x=>decide (x.2<o)) hz (by simpa using hp) (by simpa using hall));have hil:=(au.1 hz).1;have HF:=ah hF;have i1:((i0:Int)== -1)=false:=beq_eq_false_iff_ne.2 om;clear hF hall hz hp;obtain⟨n,hn⟩:=eY F.length;rw[←hn] at hl I hil hcap ⊢;have HN:=ah hn;clear hn;unfold GJ at*
 go_in
 go_wp2_with fail;refine I.out.mono ?_;rintro e w1 ⟨rfl,hb1⟩;clear I;have k1:Keep [g] w w1:=Keep.of hb1;have R1:=ah (HF.out.keep (Keep.of (S:=[]) hb1) hg sI);clear HF;go_wp2_with fail;clear i1;go_loopw [5,6,7] (fun iv jv _ wr=>∃(i j:Nat) (L:List (Int×Int)),iv= .int .i64 i∧jv= .int .i64 j∧Hid (uI (fun x=>decide (x.2<o)) F i j L)∧Hid (Bg wr g L)∧Keep [g] w wr) (fun _ jv _ _=>n-(intOf jv).toNat);case atStart=>exact⟨i0,i0+1,F,rfl,by go_num,D0,R1,k1⟩
 case round=>
  obtain⟨i,j,L,rfl,rfl,DI,RW,hk⟩:=hrel;have hdi:=DI.out;have d1:=hdi.lt;have d2:=hdi.le;have d3:=hdi.len;rw[←HN.out] at d2 d3;clear D0 R1;have zr:=hk.size;by_cases hjn:j<n
  ·obtain⟨y,hy⟩: ∃y,L[j]?=some y:=⟨L[j]' om,aA _⟩
   obtain⟨y0,hy0⟩: ∃y,L[i]?=some y:=⟨L[i]' om,aA _⟩;have hyF:F[j]?=some y:=by rw[←hdi.at j (aI _)];exact hy
   obtain⟨x,k⟩:=y;obtain⟨x0,k0⟩:=y0;obtain⟨⟨r1,r2⟩,_,_⟩:=RW.out j x k hy;obtain⟨⟨s1,s2⟩,s3,s4⟩:=RW.out i x0 k0 hy0;have HYF:=ah hyF;have rc:wr.cell? ⟨c,0,none⟩=some (.int .i64 o):=(hk.cell hcl (by simpa using hcg)).trans hc;have hil2:i<L.length:=om;clear hdi hy hy0 hyF d2 d3;have rc':(wr.alloc (.cells #[.int .i64 x,.int .i64 k] 213)).cell? ⟨c,0,none⟩=some (.int .i64 o):=by rw[eZ _ _ _ (by show c<_;omega)];exact rc
   cases hq:decide (k<o) with
   |true=>
    have HQ:=ah hq;have sm:=wH x k o c _ rc' (by simp;omega);rw[hq] at sm;have SM:=ah sm;clear sm hq rc rc';go_wp2_with fail;refine SM.out.mono ?_;rintro e w2 ⟨rfl,hb2⟩;have hk2:Keep [g] wr w2:=(Keep.refl _ _).alloc _ |>.step hb2;go_wp2;go_roundw;case rel=>exact⟨i,j+1,L,rfl,by go_num,DI.out.skip HYF.out HQ.out,RW.out.keep (S:=[]) ((Keep.refl _ _).alloc _ |>.step hb2) om sI,hk.then hk2⟩
    case measure=>simp[intOf];omega
   |false=>
    have HQ:=ah hq;have sm:=wH x k o c _ rc' (by simp;omega);rw[hq] at sm;have SM:=ah sm;clear sm hq rc rc';go_wp2_with fail;refine SM.out.mono ?_;rintro e w2 ⟨rfl,hb2⟩;have hk2:Keep [g] wr w2:=(Keep.refl _ _).alloc _ |>.step hb2;have hk0:Keep [] wr w2:=(Keep.refl _ _).alloc _ |>.step hb2;have hgr:g<wr.heap.size:=om;have t1:=(hk0.cell (o:=i*2) hgr sI).trans s1;have t2:=(hk0.cell (o:=i*2+1) hgr sI).trans s2;have t3:=(hk0.frozen (o:=i*2) hgr sI).trans s3;have t4:=(hk0.frozen (o:=i*2+1) hgr sI).trans s4;have bx:w2.cell? ⟨wr.heap.size,0,none⟩=some (.int .i64 x):=(hb2.cell (p:=⟨wr.heap.size,0,none⟩) sI).trans (by rw[bE _ _ _ _ sI];rfl);have by':w2.cell? ⟨wr.heap.size,1,none⟩=some (.int .i64 k):=(hb2.cell (p:=⟨wr.heap.size,1,none⟩) sI).trans (by rw[bE _ _ _ _ sI];rfl);have R2:=ah ((RW.out.keep hk0 hgr sI).set hil2 x k);clear r1 r2 s1 s2 s3 s4 hb2;go_wp2;go_roundw;case rel=>exact⟨i+1,j+1,L.set i (x,k),by go_num,by go_num,DI.out.keep HYF.out HQ.out,R2,((hk.then hk2).setCell (.inl sI) _).setCell (.inl sI) _⟩
    case measure=>simp[intOf];omega
  ·have ej:j=n:=by omega
   rw[ej,HN.out] at hdi;obtain⟨f1,f2,f3⟩:=hdi.done;rw[d3] at f3;have e1:n-i+i=n:=om;have hcl:=fun ty=>Sj wr ty g (i*2) (n-i) (cap-i) om (fun q hq=>(RW.out.cells (o:=i*2+q) (by rw[d3];omega)).1) (fun q hq=>(RW.out.cells (o:=i*2+q) (by rw[d3];omega)).2)
   have F1:=ah f1;have F2:=ah f2;clear hdi f1 f2 e1 d1 d2;obtain rfl:j=n:=ej;have hneg: ¬((j:Int)<(j:Int)):=om;go_wp2;go_ret;have hfit:Df o F=F.filter fun x=> !decide (x.2<o):=rfl
   rw[hfit,←F2.out,←F1.out];exact⟨rfl,RW.out.cut i _,Keep.setCells g (.inl sI) _ _ hk⟩
theorem PS (g cap c:Nat) (o:Int) (F:List (Int×Int)) (w:World) (hF:Bg w g F) (hg:g<w.heap.size) (hl:F.length≤256) (hcap:F.length≤cap) (hc:w.cell? ⟨c,0,none⟩=some (.int .i64 o)) (hcl:c<w.heap.size) (hcg:c≠g):
 Calls prog 189 #[.slice (some ⟨g,0,none⟩) F.length cap,GJ c] w fun e w'=>e= .returned (.slice (some ⟨g,0,none⟩) (Df o F).length cap)∧Bg w' g (Df o F)∧Keep [g] w w':=by
 rcases Bn o F with h|⟨i,z,h1,h2,h3⟩
 ·exact UH g cap c o F w hF hg hl hc hcl h
 ·exact UJ g cap c i o F z w hF hg hl hcap hc hcl hcg h1 h2 h3
theorem delF_nil (c:Nat) (w:World):
 Calls prog 189 #[.slice none 0 0,GJ c] w fun e w'=>e= .returned (.slice none 0 0)∧w=w':=by
 have I: ∀w,Calls prog 195 #[.slice none 0 0,GJ c] w fun e w'=>e= .returned (.int .i64 (-1))∧w=w':=by
  intro w;unfold GJ;go_in
  go_wp2_with fail;refine wp_loop_rounds 1 ?_;rw[rounds_succ];go_wp2;go_ret;exact⟨rfl,rfl⟩
 unfold GJ at*
 go_in
 go_wp2_with fail;refine(I _).mono ?_;rintro e w1 ⟨rfl,rfl⟩;go_wp2;go_ret;exact⟨rfl,rfl⟩
theorem Sk {F:List (Int×Int)} {i:Nat} {z x:Int×Int} {r:List (Int×Int)} (h:F.take i=z::r) (hx:F[i]?=some x): ∃r',F.take (i+1)=z::r'∧Ae z r'=if x.2<(Ae z r).2 then x else Ae z r:=by
 refine⟨r++[x],?_,?_⟩
 ·rw[bR,h,hx];rfl
 ·have: ∀(r:List (Int×Int)) (z:Int×Int),Ae z (r++[x])=if x.2<(Ae z r).2 then x else Ae z r:=by
   intro r;induction r with
   |nil=>intro z;rfl
   |cons y s ih=>intro z;exact ih _
  exact this r z
theorem minF_any (g cap:Nat) (z:Int×Int) (r:List (Int×Int)) (w:World) (hF:Bg w g (z::r)) (hg:g<w.heap.size) (hl:(z::r).length≤256):
 Calls prog 192 #[.slice (some ⟨g,0,none⟩) (z::r).length cap,.func (.func 193) #[] #[]] w fun e w'=>e= .returned (.agg #[.int .i64 (Ae z r).1,.int .i64 (Ae z r).2])∧Below w.heap.size w w':=by
 have n1:1≤(z::r).length:=sI;obtain⟨F,hFe⟩:=eY (z::r);rw[←hFe] at hF hl n1 ⊢;have HFE:=ah hFe;have HF:=ah hF;clear hFe hF;obtain⟨n,hn⟩:=eY F.length;rw[←hn] at hl n1 ⊢;have HN:=ah hn;clear hn;obtain⟨⟨q1,q2⟩,_,_⟩:=HF.out 0 z.1 z.2 (by rw[HFE.out];rfl);have q1':w.cell? ⟨g,0,none⟩=some (.int .i64 z.1):=q1;have q2':w.cell? ⟨g,1,none⟩=some (.int .i64 z.2):=q2;have c1:decide ((n:Int)<1)=false:=dQf om;have c2:(0:Int)<n:=om;clear q1 q2;go_in
 go_wp2_with fail;clear c1 c2 q1' q2';go_loopw [6] (fun iv wr=>∃(i:Nat) (r':List (Int×Int)),1≤i∧i≤n∧iv= .int .i64 (i:Int)∧Hid (F.take i=z::r')∧Hid (wr.cell? ⟨w.heap.size+1,0,none⟩=some (.int .i64 (Ae z r').1)∧wr.cell? ⟨w.heap.size+1,1,none⟩=some (.int .i64 (Ae z r').2)
  ∧wr.frozen? ⟨w.heap.size+1,0,none⟩=false∧wr.frozen? ⟨w.heap.size+1,1,none⟩=false∧wr.frozen? ⟨w.heap.size,0,none⟩=false∧wr.frozen? ⟨w.heap.size,1,none⟩=false
  ∧wr.cell? ⟨w.heap.size,0,none⟩=some (.int .i64 0)∧wr.cell? ⟨w.heap.size,1,none⟩=some (.int .i64 0))∧w.heap.size+1<wr.heap.size∧Below w.heap.size w wr) (fun iv _=>n-(intOf iv).toNat)
 case atStart=>
  refine⟨1,[],om,n1,by go_num,(show _=_ by rw[HFE.out];rfl),⟨?_,?_,?_,?_,?_,?_,?_,?_⟩,sI,jY⟩
  ·rw[bE _ _ _ _ sI];rfl
  ·rw[bE _ _ _ _ sI];rfl
  ·exact cZ _ _ _ _ sI
  ·exact cZ _ _ _ _ sI
  ·rw[World.frozen?_alloc_past _ _ _ sI];exact cZ _ _ _ _ sI
  ·rw[World.frozen?_alloc_past _ _ _ sI];exact cZ _ _ _ _ sI
  ·rw[eZ _ _ _ sI,bE _ _ _ _ sI];rfl
  ·rw[eZ _ _ _ sI,bE _ _ _ _ sI];rfl
 case round=>
  obtain⟨i,r',hi1,hi,rfl,HT,HM,hz,hbel⟩:=hrel;obtain⟨m1,m2,m3,m4,m5,m6,m7,m8⟩:=HM.out;by_cases hlt:i<n
  ·obtain⟨y,hy⟩: ∃y,F[i]?=some y:=⟨F[i]'(by rw[←HN.out];exact hlt),aA _⟩
   obtain⟨r2,hr2,hmin⟩:=Sk HT.out hy;obtain⟨x,k⟩:=y;obtain⟨⟨p1,p2⟩,_,_⟩:=HF.out i x k hy;have r1:wr.cell? ⟨g,i*2,none⟩=some (.int .i64 x):=(hbel.cell (p:=⟨g,i*2,none⟩) hg).trans p1;have r3:wr.cell? ⟨g,i*2+1,none⟩=some (.int .i64 k):=(hbel.cell (p:=⟨g,i*2+1,none⟩) hg).trans p2;have R2:=ah hr2;have zg:g<wr.heap.size:=om;clear hy hr2 p1 p2;obtain⟨mx,hmx⟩:=eY (Ae z r');rw[←hmx] at m1 m2 hmin;have la:=fun w=>UG x k mx.1 mx.2 w
   by_cases hk:k<mx.2
   ·rw[if_pos hk] at hmin
    have HMI:=ah hmin;have hcmp:Bj k mx.2= -1:=by unfold Bj;rw[if_pos hk]
    simp only[hcmp] at la;have LA:=ah la;clear hmin hmx hk la hcmp;go_wp2;refine kG kR kR ?_;repeat(go_big_quiet_step ((go_at_call 193;exact Calls.behind (LA.out _))))
    refine wpQuiet_nil ?_;intro w1 hw';have hb1:=lN hw';clear hw';have z1:=hb1.size;try simp at z1
    have hq: ∀b o,b<wr.heap.size→w1.cell? ⟨b,o,none⟩=wr.cell? ⟨b,o,none⟩:=fun b o h=>hb1.cell (p:=⟨b,o,none⟩) h
    have hf: ∀b o,b<wr.heap.size→w1.frozen? ⟨b,o,none⟩=wr.frozen? ⟨b,o,none⟩:=fun b o h=>hb1.frozen (p:=⟨b,o,none⟩) h
    rw[←hq _ _ hz] at m1 m2;rw[←hf _ _ hz] at m3 m4;rw[←hf _ _ om] at m5 m6;rw[←hq _ _ om] at m7 m8;rw[←hq _ _ zg] at r1 r3;clear hq hf;go_wp2;go_roundw;case rel=>
     refine⟨i+1,r2,om,om,by go_num,R2,(show _∧_ from ?_),by simp[World.setCell];omega,jY⟩;rw[HMI.out];refine⟨?_,?_,?_,?_,?_,?_,?_,?_⟩
     ·rw[kH _ om,kZ _ m1]
     ·rw[kZ (x:=.int .i64 mx.2) _ (by rw[kH _ om];exact m2)]
     ·rw[kX,kX];exact m3
     ·rw[kX,kX];exact m4
     ·rw[kX,kX];exact m5
     ·rw[kX,kX];exact m6
     ·rw[uH _ om,uH _ om];exact m7
     ·rw[uH _ om,uH _ om];exact m8
    case measure=>simp[intOf];omega
   ·rw[if_neg hk] at hmin
    have HMI:=ah hmin;obtain⟨q,hq,hq0⟩: ∃q,Bj k mx.2=q∧¬q<0:=⟨_,rfl,by unfold Bj;split;(·contradiction);(·split<;>omega)⟩;simp only[hq] at la;have LA:=ah la;have hq1:decide (q<0)=false:=dQf hq0;clear hmin hmx hk la hq hq0;go_wp2;refine kG kR kR ?_;repeat(go_big_quiet_step ((go_at_call 193;exact Calls.behind (LA.out _))))
    refine wpQuiet_nil ?_;intro w1 hw';have hb1:=lN hw';clear hw';have z1:=hb1.size;try simp at z1
    have hq: ∀b o,b<wr.heap.size→w1.cell? ⟨b,o,none⟩=wr.cell? ⟨b,o,none⟩:=fun b o h=>hb1.cell (p:=⟨b,o,none⟩) h
    have hf: ∀b o,b<wr.heap.size→w1.frozen? ⟨b,o,none⟩=wr.frozen? ⟨b,o,none⟩:=fun b o h=>hb1.frozen (p:=⟨b,o,none⟩) h
    rw[←hq _ _ hz] at m1 m2;rw[←hf _ _ hz] at m3 m4;rw[←hf _ _ om] at m5 m6;rw[←hq _ _ om] at m7 m8;clear hq hf;go_wp2;go_roundw;case rel=>
     refine⟨i+1,r2,om,om,by go_num,R2,(show _∧_ from ?_),om,jY⟩;rw[HMI.out];exact⟨m1,m2,m3,m4,m5,m6,m7,m8⟩
    case measure=>simp[intOf];omega
  ·have ej:i=n:=by omega
   have hfin:Ae z r=Ae z r':=by
    have:=HT.out;rw[ej,HN.out,bU,HFE.out] at this;rw[List.cons.inj this |>.2]
   obtain⟨mx,hmx⟩:=eY (Ae z r');rw[←hmx] at m1 m2 hfin;have Af:=ah hfin;clear hfin hmx;go_wp2;have e0:=kZ (.int .i64 mx.1) m7;have e1:=kZ (w:=wr.setCell ⟨w.heap.size,0,none⟩ (.int .i64 mx.1)) (.int .i64 mx.2) ((kH _ om).trans m8);have e2:=(kH (w:=wr.setCell ⟨w.heap.size,0,none⟩ (.int .i64 mx.1)) (g:=w.heap.size) (o:=1) (o':=0) (.int .i64 mx.2) om).trans e0;exact bodyPost_ret (v:=.agg #[.int .i64 mx.1,.int .i64 mx.2]) (by simp[e0,e1,e2,results,Tryz.results192,go_sem,hz,show w.heap.size<wr.heap.size from om]) rfl ⟨by rw[Af.out],jY⟩
theorem Sm (a n:Int) (w:World) (a0:0≤a) (n0:0≤n) (h:a+n≤256):
 Calls prog 124 #[.int .i64 a,.int .i64 n] w (UD w (wm a n) (.bool true)):=by
 obtain⟨i0,hi,hz0,hz1,hz2⟩:=info_parts infoB;have hlen:=xW n.toNat a n (aI _);have d1:decide (a<0)=false:=dQf om;have d2:decide (256<a)=false:=dQf om;have d3:decide (n<0)=false:=dQf om;have d4:decide (256<n)=false:=dQf om;have d5:decide (256<a+n)=false:=dQf om;go_in
 go_wp2_with fail;clear d1 d2 d3 d4 d5;go_loopw [0,1,6] (fun xa xn v wr=>∃(x m:Int) (done:List (Int×Int)),xa= .int .i64 x∧xn= .int .i64 m∧0≤x∧0≤m∧x+m≤256∧wm a n=done++wm x m∧wr.ownsRow w.heap.size 213 2 v done.length (l8 done)∧Below w.heap.size w wr) (fun _ xn _ _=>(intOf xn).toNat);case atStart=>exact⟨a,n,[],rfl,rfl,a0,n0,h,rfl,aT _ _ _ _,aL _ _⟩
 case round=>
  obtain⟨x,m,done,rfl,rfl,x0,m0,hxm,Sd,hown,hbel⟩:=hrel;have hdl:(done.length:Int)≤n.toNat:=by rw[Sd] at hlen;simp at hlen;omega
  by_cases hm:m<1
  ·have e:m=0:=by omega
   subst e;rw[rQ (bZ _),dw] at Sd;have HC:=ah Sd;clear Sd;go_wp2;go_ret2
   exact⟨_,rfl,by rw[HC.out];exact⟨hown,hbel⟩⟩
  ·have hst:=wE (a:=x) (n:=m) om
   obtain⟨k0,k6⟩:=wD x m;obtain⟨s1,s2⟩:=xS k0 k6;obtain⟨f1,f2⟩:=Ba (a:=x) (n:=m) om;have hmax:=fun j:Int=>Fp (a:=x) (n:=m) (k:=j)
   have hmin:=fun(j:Int) (h0:0≤j) (h1:j≤xJ x m)=>covO_min (a:=x) (n:=m) (k:=j) h0 h1 om
   have hm1:1≤m:=om;have hd0:decide (0<m)=true:=dQt om;clear hm;generalize xJ x m=k at*
   have HST:=ah hst;have HMAX:=ah hmax;have HMIN:=ah hmin;have HC:=ah Sd;clear hst hmax f1 Sd hmin;go_wp2;go_loop [7] (fun kv=>∃j:Int,0≤j∧j≤k∧kv= .int .i64 j) (fun kv=>(6-intOf kv).toNat)
   case atStart=>exact⟨0,om,k0,rfl⟩
   case round=>
    obtain⟨j,hj0,hjk,rfl⟩:=hrel;obtain⟨t1,t2⟩:=Uu (k:=j+1) om om;by_cases hlt:j<k
    ·obtain⟨y1,y2⟩:=HMIN.out (j+1) om om
     have hd:decide (j<6)=true:=dQt om;have hb:(x % sz (j+1)==0)=true:=by simp[y1]
     clear y1;go_wp2_with (first|(go_at_call 153;refine(rR _ _ om om).mono ?_;rintro e w' ⟨rfl,rfl⟩));go_round
     case rel=>exact⟨j+1,om,om,rfl⟩
     case measure=>simp[intOf];omega
    ·obtain rfl:j=k:=by omega
     have hbel0:=hbel;by_cases h6:j=6
     ·subst h6
      go_wp2_with (first|(go_at_call 153;refine(rR _ _ om om).mono ?_;rintro e w' ⟨rfl,rfl⟩)|(at_builtin;refine wpList_append_own _ rfl _ _ 235 rfl w.heap.size 213 i0 (.agg #[.int .i64 0,.int .i64 0]) 2 16 gM hi hz0 hz1 hz2 rfl (by decide) _ _ _ rfl (hown.alloc _) ⟨wr.heap.size,0,none⟩ 1 1 [.int .i64 x,.int .i64 6] rfl rfl (oK _ _ _ _) (oL _ _) ?c3 ?c4 ?c5 ?_));case c3=>unfold maxLen;omega
      case c4=>omega
      case c5=>have:=hbel.size;simp;omega
      intro v' w1 hown' hgrow _;have Jm:Below w.heap.size w w1:=(hbel.alloc hbel.size _).grown hgrow (by have:=hbel.size;simp;omega) (fun r hr=>(hown.lt r hr).1);have OW:=ah hown';clear hown' hgrow hown hbel hbel0;go_wp2_with (first|(go_at_call 153;refine(rR _ _ om om).mono ?_;rintro e w' ⟨rfl,rfl⟩));go_roundw;case rel=>
       refine⟨x+sz 6,m-sz 6,done++[(x,6)],rfl,rfl,om,om,om,?_,?_,?_⟩
       ·rw[HC.out,HST.out];simp
       ·rw[lY];exact(show w1.ownsRow _ _ _ _ _ _ by simpa using OW.out)
       ·exact Jm
      case measure=>simp[intOf];omega
     ·have hno:=HMAX.out (j+1) om om
      have hd:decide (j<6)=true:=dQt om;have hb:((x % sz (j+1)==0)=false)∨((x % sz (j+1)==0)=true∧m<sz (j+1)):=by
       by_cases e:x % sz (j+1)=0
       ·refine .inr ⟨by simp[e],?_⟩
        rcases Int.lt_or_le m (sz (j+1)) with h'|h'
        ·exact h'
        ·exact absurd ⟨e,h'⟩ hno
       ·exact .inl (by simp[e])
      clear hno;rcases hb with hb|⟨hb,hb2⟩;all_goals
       go_wp2_with (first|(go_at_call 153;refine(rR _ _ om om).mono ?_;rintro e w' ⟨rfl,rfl⟩)|(at_builtin;refine wpList_append_own _ rfl _ _ 235 rfl w.heap.size 213 i0 (.agg #[.int .i64 0,.int .i64 0]) 2 16 gM hi hz0 hz1 hz2 rfl (by decide) _ _ _ rfl (hown.alloc _) ⟨wr.heap.size,0,none⟩ 1 1 [.int .i64 x,.int .i64 j] rfl rfl (oK _ _ _ _) (oL _ _) (by unfold maxLen;omega) om (by have:=hbel.size;simp;omega) ?_));intro v' w1 hown' hgrow _;have Jm:Below w.heap.size w w1:=(hbel.alloc hbel.size _).grown hgrow (by have:=hbel.size;simp;omega) (fun r hr=>(hown.lt r hr).1);have OW:=ah hown';clear hown' hgrow hown hbel hbel0;go_wp2_with (first|(go_at_call 153;refine(rR _ _ om om).mono ?_;rintro e w' ⟨rfl,rfl⟩));go_roundw;case rel=>
        refine⟨x+sz j,m-sz j,done++[(x,j)],rfl,rfl,om,om,om,?_,?_,?_⟩
        ·rw[HC.out,HST.out];simp
        ·rw[lY];exact(show w1.ownsRow _ _ _ _ _ _ by simpa using OW.out)
        ·exact Jm
       case measure=>simp[intOf];omega
theorem Bo {L:List (Int×Int)} (hA:Asc L) {j:Nat} {a k:Int} (h:L[j]?=some (a,k)):rC a k (L.take j)=L.take (j+1):=by
 rw[Gy k (fun p hp=> ?_),bR,h]
 ·rfl
 ·have hj:=(au.1 h).1
  obtain⟨i,hi,rfl⟩:=List.getElem_of_mem hp;rw[bD] at hi;have:=dO.1 hA i j om hj om;rw[(au.1 h).2] at this;simpa using this
theorem GK (w:World):Dh (w.alloc (.map #[] 0)) w.heap.size []:=
 ⟨List.Pairwise.nil,World.ownsMap_made _ _ _ _,sI,fun p hp=>by cases hp⟩
theorem Dh.keep {S:List Nat} {w w':World} {b:Nat} {l:List (Int×Int)} (h:Dh w b l) (hk:Keep S w w') (hb:b∉S):Dh w' b l:=by
 have hlt:=h.own.lt;obtain⟨h1,⟨es,clock,h2,h3⟩,h4,h5⟩:=h;exact⟨h1,⟨es,clock,(hk.block b hlt hb).trans h2,h3⟩,h4,h5⟩
theorem Jp {W:World} {a:Addr} {v:Value} (h:W.cell? a=some v):a.block<W.heap.size:=by
 rcases dU a.block W.heap.size with h'|h'
 ·exact h'
 ·simp[World.cell?,eO h'] at h
theorem Bud.ltp {w:World} {pb:Nat} {n:Int} {bf bt:Nat} {F T:List (Int×Int)} (h:Bud w pb n bf bt F T):pb<w.heap.size:=Jp h.c0
theorem Bud.ltf {w:World} {pb:Nat} {n:Int} {bf bt:Nat} {F T:List (Int×Int)} (h:Bud w pb n bf bt F T):bf<w.heap.size:=h.free.own.lt
theorem Bud.ltt {w:World} {pb:Nat} {n:Int} {bf bt:Nat} {F T:List (Int×Int)} (h:Bud w pb n bf bt F T):bt<w.heap.size:=h.taken.own.lt
theorem Bud.keep {S:List Nat} {w w':World} {pb:Nat} {n:Int} {bf bt:Nat} {F T:List (Int×Int)} (h:Bud w pb n bf bt F T) (hk:Keep S w w') (h1:pb∉S) (h2:bf∉S) (h3:bt∉S):Bud w' pb n bf bt F T:=
 ⟨(hk.cell h.ltp h1).trans h.c0,(hk.cell h.ltp h1).trans h.c1,(hk.cell h.ltp h1).trans h.c2,h.free.keep hk h2,h.taken.keep hk h3,h.ne⟩
theorem Bud.below {w w':World} {pb:Nat} {n:Int} {bf bt:Nat} {F T:List (Int×Int)} (h:Bud w pb n bf bt F T) (hk:Below w.heap.size w w'):Bud w' pb n bf bt F T:=
 h.keep (Keep.of (S:=[]) hk) sI sI sI
theorem Bud.turnF {w w':World} {pb:Nat} {n:Int} {bf bt:Nat} {F F' T:List (Int×Int)} (h:Bud w pb n bf bt F T) (hm:Dh w' bf F') (hk:Keep [bf] w w'):Bud w' pb n bf bt F' T:=
 ⟨(hk.cell h.ltp (by simpa using h.ne.2.1)).trans h.c0,(hk.cell h.ltp (by simpa using h.ne.2.1)).trans h.c1,(hk.cell h.ltp (by simpa using h.ne.2.1)).trans h.c2,hm,h.taken.keep hk (by simpa using h.ne.1.symm),h.ne⟩
theorem Bud.turnT {w w':World} {pb:Nat} {n:Int} {bf bt:Nat} {F T T':List (Int×Int)} (h:Bud w pb n bf bt F T) (hm:Dh w' bt T') (hk:Keep [bt] w w'):Bud w' pb n bf bt F T':=
 ⟨(hk.cell h.ltp (by simpa using h.ne.2.2)).trans h.c0,(hk.cell h.ltp (by simpa using h.ne.2.2)).trans h.c1,(hk.cell h.ltp (by simpa using h.ne.2.2)).trans h.c2,h.free.keep hk (by simpa using h.ne.1),hm,h.ne⟩
theorem new_ok (n:Int) (w:World) (n1:1≤n) (n2:n≤256):
 Calls prog 90 #[.int .i64 n] w fun e w'=>∃pb bf bt,e= .returned (.tuple #[.pointer (some ⟨pb,0,none⟩),.nilIface])∧Bud w' pb n bf bt (wm 0 n) []∧(w.heap.size≤pb∧w.heap.size≤bf∧w.heap.size≤bt)∧Below w.heap.size w w':=by
 have hmm:= @run_makeMap prog;have hco:=fun w=>cover_ok 0 n w om om om
 have hI:=Inv.start n1 n2;generalize wm 0 n=L at*
 have HC:=ah hco;have HI:=ah hI;clear hco hI;have d1:decide (n<1)=false:=dQf om;have d2:decide (256<n)=false:=dQf om;go_in
 go_wp2_with fail;clear d1 d2 hmm;refine(HC.out _).mono ?_;obtain⟨W0,hW0⟩:=eY (((w.alloc (.map #[] 0)).alloc (.map #[] 0)).alloc (.cells #[.int .i64 n,.map (some w.heap.size),.map (some (w.heap.size+1))] 234));have B0:Bud W0 (w.heap.size+2) n w.heap.size (w.heap.size+1) [] []:=by
  subst hW0;refine⟨?_,?_,?_,?_,?_,om,om,om⟩
  ·rw[bE _ _ _ _ sI];rfl
  ·rw[bE _ _ _ _ sI];rfl
  ·rw[bE _ _ _ _ sI];rfl
  ·exact(GK w).keep (Keep.alloc (Keep.alloc (Keep.refl [] _) _) _) sI
  ·exact(show Dh ((w.alloc (.map #[] 0)).alloc (.map #[] 0)) (w.alloc (.map #[] 0)).heap.size [] from GK _).keep (Keep.alloc (Keep.refl [] _) _) sI |> fun h=>by simpa using h
 have K0:Below w.heap.size w W0:=by subst hW0;exact jY
 have z0:W0.heap.size=w.heap.size+3:=by subst hW0;simp
 rw[←hW0];clear hW0;rintro e w1 ⟨v,rfl,hv⟩;have hb1:=hv.2;have B1:=B0.below hb1;have K1:Below w.heap.size w w1:=K0.trans (hb1.mono om);have hlen:=HI.out.lenF;rcases hv.mrow with⟨rfl,hnil⟩|⟨g,cap,rfl,hg0,hg,_,hc⟩
 ·obtain⟨x,hx,_⟩:=HI.out.t.cov (p:=0) om om
  rw[hnil] at hx;cases hx
 ·have C1:=ah hc
  obtain⟨N,hn⟩:=eY L.length;rw[←hn] at hlen ⊢;have HN:=ah hn;have z1:=hb1.size;have hB0:w.heap.size<g:=om;have HB1:=ah B1;clear hn hc hv B0 B1 K0;go_wp2_with fail;go_loopw [8,28] (fun _ i wr=>∃j:Nat,j≤N∧i= .int .i64 j∧Hid (Bud wr (w.heap.size+2) n w.heap.size (w.heap.size+1) (L.take j) [])∧Keep [w.heap.size] w1 wr) (fun _ i _=>N-(intOf i).toNat);case atStart=>exact⟨0,bq _,rfl,HB1,Keep.refl _ _⟩
  case round=>
   obtain⟨j,hj,rfl,HB,hk⟩:=hrel;have zr:=hk.size;by_cases hlt:j<N
   ·obtain⟨y,hy⟩: ∃y,L[j]?=some y:=⟨L[j]'(by rw[←HN.out];exact hlt),aA _⟩
    obtain⟨x,k⟩:=y;obtain⟨⟨p1,p2⟩,_,_⟩:=C1.out j x k hy;have hrg:=HI.out.rngF (aF hy);simp only at hrg;have gr:g<wr.heap.size:=om;have gne:g≠w.heap.size:=by have:=hB0;omega
    have r1:wr.cell? ⟨g,j*2,none⟩=some (.int .i64 x):=(hk.cell om (by simpa using gne)).trans p1;have r2:wr.cell? ⟨g,j*2+1,none⟩=some (.int .i64 k):=(hk.cell om (by simpa using gne)).trans p2;have hb:=HB.out;have q1:=hb.c1;have hlp:=hb.ltp;have hka:Keep [] wr ((wr.alloc (.cells #[.int .i64 x,.int .i64 k] 213)).drew):=((Keep.refl _ _).alloc _).drew;obtain⟨w2,hrun,hput,hgr⟩:=(hb.free.keep hka sI).put hrg (by rw[Bo HI.out.fa hy];exact bW (List.length_take_le _ _) om);rw[Bo HI.out.fa hy] at hput;have hk2:Keep [w.heap.size] wr w2:=(hka.mono (fun s q=>by cases q)).grown hgr (.inl sI);have HP:=ah hput;have HG:=ah hgr;clear hput hgr hy p1 p2 hb;go_wp2;refine lJ 8 kR kR ?_;simp only[aQ,aV,aP,aU];repeat still_step
    refine wpStill_nil ?_;go_wp2;clear hrun;go_roundw;case rel=>exact⟨j+1,om,by go_num,HB.out.turnF HP.out hk2,hk.then hk2⟩
    case measure=>simp[intOf];omega
   ·have ej:j=N:=by omega
    have HBe:Bud wr (w.heap.size+2) n w.heap.size (w.heap.size+1) L []:=by have:=HB.out;rwa [ej,HN.out,bU] at this
    have HB2:=ah HBe;have K2:Below w.heap.size w wr:=hk.after K1 om sI;clear HBe ej;go_wp2;go_ret2
    exact⟨_,_,_,rfl,HB2.out,⟨om,om,om⟩,K2⟩
def sW (left:Lit→Bool):List (Int×Int)→Int
 |[]=>0
 |x::r=>(if left (.int .i64 x.1) then sz x.2 else 0)+sW left r
theorem Ee (left:Lit→Bool): ∀l:List (Int×Int),(∀x∈l,left (.int .i64 x.1)=true)→sW left l=oJ l
 |[],_=>rfl
 |x::r,h=>by simp only[sW,oJ,h x sI,if_true,Ee left r fun y hy=>h y (ak _ hy)]
theorem Bp (left:Lit→Bool): ∀l:List (Int×Int),(∀k,left k=false)→sW left l=0
 |[],_=>rfl
 |x::r,h=>by simp[sW,h,Bp left r h]
theorem Bq (left:Lit→Bool): ∀l:List (Int×Int),0≤sW left l∧sW left l≤oJ l
 |[]=>⟨bZ _,bZ _⟩
 |x::r=>by
  have:=Bq left r;have:=qh x.2;simp only[sW,oJ];split<;>omega
theorem Br (left:Lit→Bool) (a:Int): ∀l:List (Int×Int),(∀x∈l,x.1≠a)→sW (fun z=>left z&& !z.sameKey (.int .i64 a)) l=sW left l
 |[],_=>rfl
 |x::r,h=>by
  have h0:=h x sI;have hf:(x.1==a)=false:=beq_eq_false_iff_ne.2 h0;simp only[sW,xA,hf,Bool.not_false,Bool.and_true,Br left a r fun y hy=>h y (ak _ hy)]
theorem Bt (left:Lit→Bool): ∀{l:List (Int×Int)} {a k:Int},Asc l→(a,k)∈l→left (.int .i64 a)=true→sW left l=sz k+sW (fun z=>left z&& !z.sameKey (.int .i64 a)) l
 |[],a,k,_,h,_=>by cases h
 |x::r,a,k,hA,h,hl=>by
  obtain⟨h1,h2⟩:=bN.1 hA;rcases aB.1 h with rfl|h
  ·have:=Br left a r fun y hy=>by have:=h1 y hy;simp only at this;omega
   simp only[sW,xA,hl,this];simp
  ·have hlt:=h1 _ h
   simp only at hlt;have hf:(x.1==a)=false:=beq_eq_false_iff_ne.2 om;have:=Bt left h2 h hl;simp only[sW,xA,hf,Bool.not_false,Bool.and_true];omega
theorem UK: ∀(l:List (Int×Int)),(∀x∈l,0≤x.2∧x.2≤6)→oJ l≤64*l.length
 |[],_=>by simp[oJ]
 |x::r,h=>by
  have:=UK r fun y hy=>h y (ak _ hy)
  have h0:=h x sI;have:=sz_le64 h0.1 h0.2;simp only[oJ,dB];omega
theorem PU (pb:Nat) (n:Int) (bf bt:Nat) (F T:List (Int×Int)) (w:World) (hb:Bud w pb n bf bt F T):
 Calls prog 134 #[.pointer (some ⟨pb,0,none⟩)] w fun e w'=>e= .returned (.tuple #[.int .i64 (oJ F),.int .i64 n])∧Below w.heap.size w w':=by
 have c0:=hb.c0;have c1:=hb.c1;have lp:=hb.ltp;have hown:=hb.free.own;have hA:=ah hb.free.asc;have hR:=ah hb.free.rng;have few:=hb.free.few;have hbd:=UK F fun x hx=>(hR.out x hx).2.2
 have sn:=p9 F;have lf:=hb.ltf;clear hb;go_in
 go_wp2_with (first
  |(at_range;refine wpList_range_own _ rfl _ 232 rfl 3 3 uV iE _ bf F.length _ rfl hown ?_;intro w0 hrg0 hg0 hs0)
  |go_in)
 go_frame
 have HO:=ah hown;clear hown;have K0:Below w.heap.size w w0:=(aL _ _).grown hg0 (aI _) (fun j hj=>by cases hj);have c0':=(K0.cell (p:=⟨pb,0,none⟩) lp).trans c0;clear c0 c1;go_loopw [2,5] (fun s _ wr=>∃(left:Lit→Bool) (cnt:Nat),Hid (wr.ranges prog 3 (plainElem prog 3) bf w.heap.size F.length (toD (H:=Unit) F) left cnt)∧s= .int .i64 (oJ F-sW left F)∧Below w.heap.size w wr)
  (fun _ _ wr=>wr.rangeLeft bf w.heap.size)
 case atStart=>
  refine⟨_,_,hrg0,?_,K0⟩;rw[Ee _ _ fun x hx=> ?_]
  ·go_num
  ·rw[toD_has,Am hA.out (k:=x.2) hx];rfl
 case round=>
  obtain⟨left,cnt,HRG,rfl,hbel⟩:=hrel;have hrg:=HRG.out;have hmeas:=hrg.left_eq;have cr:=(hbel.cell (p:=⟨pb,0,none⟩) lp).trans ((K0.cell (p:=⟨pb,0,none⟩) lp).symm.trans c0');have zr:=hbel.size;have HME:=ah hmeas;have htc:=Bq left F;clear hrg0 hg0 hs0 c0' hmeas;go_wp2_with (first
   |(at_next;refine wpList_next_ranges_ii _ rfl _ rfl 3 3 .i64 .i64 uV bB bB bf w.heap.size F.length _ _ _ rfl hrg ?_ ?_)
   |go_in)
  ·intro hc0 hl0
   have ht0:=Bp left F hl0;have HT:=ah ht0;clear hl0 ht0 hrg;go_wp2;go_quiet (fail);go_wp2;go_ret2
   exact⟨by rw[HT.out];simp,jY⟩
  ·intro x c w1 cnt1 hwx hwc hlx hat hrg1 hlt hg1 hs1 hen
   have hmem:(x,c)∈F:=by
    have:=hat (.lit (.int .i64 0));have this2:=hat (.lit (.int .i64 1));rw[toD_at] at this this2;cases hg:zX F x with
    |none=>rw[hg] at this this2;simp at this this2;omega
    |some q=>rw[hg] at this;simp at this;rw[←this];exact yE hg
   have hst:=Bt left hA.out hmem hlx;have hrc:=hR.out _ hmem;simp only at hrc;obtain⟨_,_,k0,k6⟩:=hrc;have hs:=xV k0 k6;have htc1:=Bq (fun z=>left z&& !z.sameKey (.int .i64 x)) F;obtain⟨s1,s2⟩:=xS k0 k6;have HST:=ah hst;have HR1:=ah hrg1;clear hst hrg1 hat hmem hrg hwx hwc;have K1:Below w.heap.size w w1:=hbel.grown hg1 zr (fun j hj=>by cases hj;exact aI _);go_wp2;go_roundw;case rel=>exact⟨_,_,HR1,by have:=HST.out;go_num,K1⟩
   case measure=>rw[HR1.out.left_eq,HME.out];omega
def CpS (w:World) (pb:Nat) (n:Int) (bf bt:Nat) (F T:List (Int×Int)) (w':World):Prop:=Below w.heap.size w w'∧Bud w' pb n bf bt F T
