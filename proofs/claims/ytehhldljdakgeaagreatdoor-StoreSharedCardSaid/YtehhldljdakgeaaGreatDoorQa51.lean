/- Lemmas and contracts for the claim's last text: StRead, StTake. -/
import Derived.Test.YtehhldljdakgeaaGreatDoorQa01
import Derived.Test.YtehhldljdakgeaaGreatDoorQa50
set_option linter.unusedSimpArgs false
set_option linter.unusedVariables false
set_option maxHeartbeats 16000000
set_option maxRecDepth 100000
namespace Go.Proofs.YtehhldljdakgeaaGreatDoor
open Go.RowKit Go.Maps
attribute [local go_sem ↓] aJ aK
theorem jD.sets {w:World} {b:Nat} {us:List Value} (h:jD w b us) (vs:List Value) (o:Nat) (hl:o+vs.length≤us.length):jD (w.setCells b o vs) b (us.take o++vs++us.drop (o+vs.length)):=by
 have hlen:(us.take o++vs++us.drop (o+vs.length)).length=us.length:=by simp only[aV,bC,bY];omega
 refine⟨aC h.lt (mZ vs o (Keep.refl [b] w) (.inl sI)).size,fun j u hj=> ?_,fun j hj=>by rw[jf];exact h.f j (by rw[hlen] at hj;exact hj)⟩;by_cases q1:j<o
 ·rw[gP b vs o w ⟨b,j,none⟩ (fun _ _=>.inl q1)]
  rw[bS,bG (by rw[bC];omega),eO] at hj;exact h.c j u (by simpa[q1] using hj)
 by_cases q2:j<o+vs.length
 ·have:=World.cell?_setCells_in b vs o w (fun i hi=>by rw[h.c (o+i) _ (aA om)];rfl) (j-o) om
  rw[show o+(j-o)=j by omega] at this;rw[this];rw[bS,bK (by rw[bC];omega),bC,show j-min o us.length=j-o by omega,bG om] at hj;rw[←hj,aA om]
 ·rw[gP b vs o w ⟨b,j,none⟩ (fun _ _=>.inr (by show o+vs.length≤j;omega))]
  rw[bK (by simp only[aV,bC];omega),cK] at hj;simp only[aV,bC] at hj;rw[show o+vs.length+(j-(min o us.length+vs.length))=j by omega] at hj;exact h.c j u hj
theorem byteT: ∀w,(Go.sizeOf 5).run Tryz.prog w= .ok 1 w:=Lib.byte_size kR
theorem cut_run (w:World) (g sz:Nat) (a n:Int) (ha:0≤a) (hn:0≤n) (h:a+n≤sz):
 (Instr.slice 75 (.slice (some ⟨g,0,none⟩) sz sz) (some (.int .i64 a)) (some (.int .i64 (a+n))) none).run Tryz.prog w= .ok (.slice (some ⟨g,if sz=a.toNat then 0 else a.toNat,none⟩) n.toNat (sz-a.toNat)) w:=by
 rw[run_slice_lh w 75 (some ⟨g,0,none⟩) sz sz kR .i64 .i64 a (a+n) ha om om];rw[show Tryz.prog.elem 75=5 by kernel_rfl,byteT];simp only[Result.andThen,sliced,jC,addr_add];have e1:(a+n).toNat-a.toNat=n.toNat:=om;rw[e1];split<;>simp
theorem cutl_run (w:World) (g sz:Nat) (a:Int) (ha:0≤a) (h:a≤sz):
 (Instr.slice 75 (.slice (some ⟨g,0,none⟩) sz sz) (some (.int .i64 a)) none none).run Tryz.prog w= .ok (.slice (some ⟨g,if sz=a.toNat then 0 else a.toNat,none⟩) (sz-a.toNat) (sz-a.toNat)) w:=by
 rw[run_slice_l w 75 (some ⟨g,0,none⟩) sz sz kR .i64 a ha om];rw[show Tryz.prog.elem 75=5 by kernel_rfl,byteT];simp only[Result.andThen,sliced,jC,addr_add];split<;>simp
theorem Gy {b:List UInt8} {j:Nat} (hj:j<b.length):(lq b)[j]?=some (.int .u8 (b[j].toNat:Int)):=by
 unfold lq;rw[List.getElem?_map,aA hj];rfl
theorem read_run {w:World} {g sz:Nat} {a n:Int} {b:List UInt8} (h2:jD w g (lq b)) (hl:b.length=sz) (ha:0≤a) (hn:0≤n) (h:a+n≤sz):
 (convert 75 9 (.slice (some ⟨g,if sz=a.toNat then 0 else a.toNat,none⟩) n.toNat (sz-a.toNat))).run Tryz.prog w= .ok (.string ⟨((b.drop a.toNat).take n.toNat).toArray⟩) w:=by
 have e:((b.drop a.toNat).take n.toNat).length=n.toNat:=by rw[bC,bY];omega
 have:=run_convert_bytes_back (P:=Tryz.prog) w 75 9 5 ⟨g,if sz=a.toNat then 0 else a.toNat,none⟩ (sz-a.toNat) ((b.drop a.toNat).take n.toNat) kR kR kR (fun j hj=>by
  rw[e] at hj;rw[addr_add,if_neg om,h2.c (a.toNat+j) _ (Gy om)];simp only[List.getElem_take,List.getElem_drop])
 rw[e] at this;exact this
theorem yH {sz:Nat} {s:St} {id a n:Int}:mQ sz s id a n=0∨mQ sz s id a n=2∨mQ sz s id a n=4:=by
 unfold mQ;split
 ·exact .inr (.inr rfl)
 ·split
  ·exact .inr (.inl rfl)
  ·exact .inl rfl
theorem Gz {sz:Nat} {s:St} {id a n:Int} (h:mQ sz s id a n=0): ∃x,pG s.L id=some x∧0≤a∧0≤n∧a≤sz∧a+n≤sz:=by
 unfold mQ at h;split at h
 ·cases h
 ·rename_i x hx
  split at h
  ·cases h
  ·rename_i hb;exact⟨x,hx,om,om,om,om⟩
section
variable {pd pc pz e:Nat} {mn:Int} {O:List (List Int)} {ev:Nat→Addr} {w0:World} {E:tu pd pc pz e mn O ev w0} {X F S:List Nat} {w w':World} {ps pp sz:Nat} {s:St} {id a n:Int} {bl:Nat} {C:BkL} {c:Bk×Nat×Nat} {x y:Bk} {last:Int} {L:List Bk}
theorem Dp (hsz:sz≤65536) (h:StB w ps pp bl sz C L last) (hid:kL id) (hc:C.find? (fun c=>c.1.id==id)=some c) (ha:0≤a) (hn:0≤n) (hb:a+n≤sz):
 Calls Tryz.prog 79 #[.pointer (some ⟨ps,0,none⟩),.int .i64 id,.int .i64 a,.int .i64 n] w fun r w'=>r= .returned (.tuple #[.pointer (some ⟨c.2.1,0,none⟩),.nilIface])∧w'=w:=by
 have A:=ah (wT h hid hc);have c1:=h.c.gC 1;have cl:=h.c.lt;have d1:decide (a<0)=false:=decide_eq_false om;have d2:decide (n<0)=false:=decide_eq_false om;have d3:decide ((sz:Int)<a)=false:=decide_eq_false om;have wl:IntKind.i64.wrap ((sz:Int)-a)=(sz:Int)-a:=bB _ om;have d4:decide ((sz:Int)-a<n)=false:=decide_eq_false om;clear h hid hc ha hn hb hsz;go_enter Tryz.func79,Tryz.ntmps79;go_wp2_with fail;refine A.out.mono ?_;rintro r w1 ⟨rfl,hw1⟩;obtain rfl:=hw1.symm;go_wp2;go_ret2
 exact⟨rfl,rfl⟩
theorem GA (hsz:sz≤65536) (hid:kL id) (ha:kL a) (hn:kL n) (h:(xU (jZ E pp) ps pp e sz).S X F s w) (h0:mQ sz s id a n≠0):
 Calls Tryz.prog 79 #[.pointer (some ⟨ps,0,none⟩),.int .i64 id,.int .i64 a,.int .i64 n] w fun r w'=>r= .returned (.tuple #[.pointer none,jW ev (mQ sz s id a n)])∧Below w.heap.size w w':=by
 have hE:=xO h;obtain⟨⟨⟨bl,C⟩,q⟩,hi⟩:=h;unfold mQ at h0 ⊢;cases hx:pG s.L id with
 |none=>
  have A:=ah (Qh hE q.b hid (Ew q hx));simp only[show jW ev 4= .iface 336 (.pointer (some (ev 4))) from rfl];clear q hi hE hx h0 ha hn hid;go_enter Tryz.func79,Tryz.ntmps79;go_wp2_with fail;refine A.out.mono ?_;rintro r w1 ⟨rfl,hb1⟩;go_wp2;go_ret2
  exact⟨rfl,hb1⟩
 |some x=>
  rw[hx] at h0;simp only at h0 ⊢;obtain⟨c,hc,rfl,hf⟩:=vK q hx;have A:=ah (wT q.b hid hf);have c1:=q.b.c.gC 1;have cl:=q.b.c.lt;have gs:w.cell? ⟨1,0,none⟩=some (.iface 336 (.pointer (some (ev 2)))):=(hE.at 2 (by decide) (by decide)).1;have gl:1<w.heap.size:=(hE.at 2 (by decide) (by decide)).2;have hbad:a<0∨n<0∨(sz:Int)<a∨(sz:Int)-a<n:=Classical.byContradiction fun hg=>h0 (if_neg hg)
  rw[if_pos hbad];simp only[show jW ev 2= .iface 336 (.pointer (some (ev 2))) from rfl];obtain⟨pb,hpb⟩:=eY c.2.1;rw[←hpb] at A;have D:(decide (a<0)=true)∨(decide (a<0)=false∧decide (n<0)=true)∨(decide (a<0)=false∧decide (n<0)=false∧decide ((sz:Int)<a)=true)∨(decide (a<0)=false∧decide (n<0)=false∧decide ((sz:Int)<a)=false∧IntKind.i64.wrap ((sz:Int)-a)=(sz:Int)-a∧decide ((sz:Int)-a<n)=true):=by
   by_cases p1:a<0
   ·exact .inl (decide_eq_true p1)
   by_cases p2:n<0
   ·exact .inr (.inl ⟨decide_eq_false p1,decide_eq_true p2⟩)
   by_cases p3:(sz:Int)<a
   ·exact .inr (.inr (.inl ⟨decide_eq_false p1,decide_eq_false p2,decide_eq_true p3⟩))
   ·exact .inr (.inr (.inr ⟨decide_eq_false p1,decide_eq_false p2,decide_eq_false p3,bB _ om,decide_eq_true om⟩))
  clear q hi hE hx h0 ha hn hid hc hf hpb hbad hsz;rcases D with d1|⟨d1,d2⟩|⟨d1,d2,d3⟩|⟨d1,d2,d3,wl,d4⟩;all_goals
   go_enter Tryz.func79,Tryz.ntmps79;go_wp2_with fail;refine A.out.mono ?_;rintro r w1 ⟨rfl,hw1⟩;obtain rfl:=hw1.symm;go_wp2_with fail;go_quiet (fail);go_wp2;go_ret2
   exact⟨rfl,jK⟩
def yP (sz:Nat) (s:St) (id a n:Int):List UInt8:=
 match pG s.L id with
 |none=>[]
 |some x=>if mQ sz s id a n=0 then(x.b.drop a.toNat).take n.toNat else[]
theorem YK (hsz:sz≤65536) (hid:kL id) (ha:kL a) (hn:kL n) (h:(xU (jZ E pp) ps pp e sz).S X F s w):
 Calls Tryz.prog 33 #[.pointer (some ⟨ps,0,none⟩),.int .i64 id,.int .i64 a,.int .i64 n] w fun r w'=>r= .returned (.tuple #[.string ⟨(yP sz s id a n).toArray⟩,jW ev (mQ sz s id a n)])∧Below w.heap.size w w':=by
 by_cases h0:mQ sz s id a n=0
 ·obtain⟨x,hx,a0,n0,a1,an⟩:=Gz h0
  have hr:yP sz s id a n=(x.b.drop a.toNat).take n.toNat:=by unfold yP;rw[hx];simp only;rw[if_pos h0]
  rw[h0,hr];simp only[show jW ev 0= .nilIface from rfl];obtain⟨⟨⟨bl,C⟩,q⟩,hi⟩:=h;obtain⟨c,hc,rfl,hf⟩:=vK q hx;have A:=ah (Dp hsz q.b hid hf a0 n0 an);obtain⟨b1,b2⟩:=q.b.b c hc;have x2:=b1.gC 2;have xl:=b1.lt;have wl:IntKind.i64.wrap (a+n)=a+n:=bB _ om;have CU:=cut_run w c.2.2 sz a n a0 n0 an;have RD:=read_run b2 (hi.len c.1 (pR hx).1) a0 n0 an;obtain⟨v,hv⟩:=eY (Value.slice (some ⟨c.2.2,if sz=a.toNat then 0 else a.toNat,none⟩) n.toNat (sz-a.toNat));obtain⟨t,ht⟩:=eY (((c.1.b.drop a.toNat).take n.toNat).toArray);obtain⟨pb,hpb⟩:=eY c.2.1;obtain⟨gb,hgb⟩:=eY c.2.2;rw[←hv] at CU RD;rw[←ht] at RD ⊢;rw[←hpb] at x2 xl A;rw[←hgb] at x2 CU;clear q hi hx hc hf b1 b2 hpb hgb hv ht h0 hr hid ha hn a0 n0 a1 an hsz;go_enter Tryz.func33,Tryz.ntmps33;go_wp2_with fail;refine A.out.mono ?_;rintro r w1 ⟨rfl,hw1⟩;obtain rfl:=hw1.symm;go_wp2;go_ret2
  exact⟨rfl,aO _ _⟩
 ·have A:=ah (GA hsz hid ha hn h h0)
  have hr:yP sz s id a n=[]:=by
   unfold yP;split
   ·rfl
   ·rw[if_neg h0]
  rw[hr];have hcc:mQ sz s id a n=2∨mQ sz s id a n=4:=yH.resolve_left h0;obtain⟨p,hp⟩: ∃p,jW ev (mQ sz s id a n)= .iface 336 (.pointer (some p)):=by rcases hcc with q|q<;>(rw[q];exact⟨_,rfl⟩)
  rw[hp] at A ⊢;clear h h0 hr hcc hid ha hn hp hsz;go_enter Tryz.func33,Tryz.ntmps33;go_wp2_with fail;refine A.out.mono ?_;rintro r w1 ⟨rfl,hb1⟩;go_wp2;go_ret2
  exact⟨rfl,hb1⟩
theorem GD {b t:List UInt8} {a:Nat}:(lq b).take a++t.map (fun x=>Value.int .u8 (x.toNat:Int))++(lq b).drop (a+(t.map fun x=>Value.int .u8 (x.toNat:Int)).length)=lq (q9 b t a):=by
 unfold lq q9;simp only[dI,List.map_take,List.map_drop,gF,bS]
theorem Si (hsz:sz≤65536) (hid:kL id) (ha:kL a) {t:ByteArray} (ht:t.size≤65536) (h:(xU (jZ E pp) ps pp e sz).S X F s w):
 Calls Tryz.prog 34 #[.pointer (some ⟨ps,0,none⟩),.int .i64 id,.int .i64 a,.string t] w (EPost (xU (jZ E pp) ps pp e sz).S X F (sG sz s id a t.data.toList).1 w (jW ev (sG sz s id a t.data.toList).2)):=by
 have hE:=xO h;have SAME:=ah (fun r=>Bf (r:=r) h);have HI:=h.2.write id a t.data.toList;obtain⟨T,hT⟩:=eY t.data.toList;have hTl:T.length=t.size:=by rw[hT,Lib.size_eq]
 have fT:kL (t.size:Int):=⟨om,om⟩;rw[←hT] at HI ⊢;by_cases h0:mQ sz s id a t.size=0
 ·obtain⟨x,hx,a0,n0,a1,an⟩:=Gz h0
  unfold sG at HI ⊢;rw[hx] at HI ⊢;simp only at HI ⊢;have hb0: ¬(a<0∨(sz:Int)<a∨(sz:Int)-a<T.length):=by rw[hTl];omega
  rw[if_neg hb0] at HI ⊢;obtain⟨⟨⟨bl,C⟩,q⟩,hi⟩:=h;obtain⟨c,hc,rfl,hf⟩:=vK q hx;have A:=Dp hsz q.b hid hf a0 n0 an;obtain⟨b1,b2⟩:=q.b.b c hc;have x3:=b1.gC 3;have xl:=b1.lt;by_cases h1:1<c.1.h
  ·rw[if_pos h1]
   have d1:decide ((1:Int)<(c.1.h:Int))=true:=decide_eq_true om;have gs:w.cell? ⟨6,0,none⟩=some (.iface 336 (.pointer (some (ev 6)))):=(hE.at 6 (by decide) (by decide)).1;have gl:6<w.heap.size:=(hE.at 6 (by decide) (by decide)).2;simp only[show jW ev 6= .iface 336 (.pointer (some (ev 6))) from rfl];obtain⟨hh,hhe⟩:=eY c.1.h;obtain⟨pb,hpb⟩:=eY c.2.1;rw[←hhe] at x3 d1;rw[←hpb] at x3 xl A;have HA:=ah A;clear q hi hE hx hc hf b1 b2 hhe hpb A HI h1 h0 hT hTl fT ht hid ha a0 n0 a1 an hsz hb0;go_enter Tryz.func34,Tryz.ntmps34;go_wp2_with fail;refine HA.out.mono ?_;rintro r w1 ⟨rfl,hw1⟩;obtain rfl:=hw1.symm;go_wp2;go_ret;exact SAME.out _ _ (aO _ _)
  ·rw[if_neg h1] at HI
   rw[if_neg h1];have d1:decide ((1:Int)<(c.1.h:Int))=false:=decide_eq_false om;have x2:=b1.gC 2;have hlen:=hi.len c.1 (pR hx).1;have CU:=cutl_run w c.2.2 sz a a0 a1;have fin: ∀w',w'=w.setCells c.2.2 (if sz=a.toNat then 0 else a.toNat) (t.data.toList.map fun x=>Value.int .u8 (x.toNat:Int))→EPost (xU (jZ E pp) ps pp e sz).S X F (s.put (c.1.wr (q9 c.1.b T a.toNat))) w .nilIface (.returned .nilIface) w':=fun w' hw'=>by
    subst hw';rw[←hT];have k:Keep [c.2.2] w (w.setCells c.2.2 (if sz=a.toNat then 0 else a.toNat) (T.map fun x=>Value.int .u8 (x.toNat:Int))):=mZ _ _ (Keep.refl _ _) (.inl sI);refine st_put q hi hc rfl k (fun q t=>.inr (by simpa using t)) (b1.keep k (by simpa using q.b.two hc)) ?_ HI;by_cases e0:sz=a.toNat
    ·have tn:T=[]:=bR.1 om
     subst tn;show jD _ _ (lq (q9 c.1.b [] a.toNat));have:q9 c.1.b [] a.toNat=c.1.b:=by unfold q9;simp
     rw[this];exact b2
    ·rw[if_neg e0]
     have:=b2.sets (T.map fun x=>Value.int .u8 (x.toNat:Int)) a.toNat (by unfold lq;simp only[gF];omega);rw[GD] at this;exact this
   have CP:=fun ty=>run_copy_string (P:=Tryz.prog) w 75 9 ty 5 c.2.2 (if sz=a.toNat then 0 else a.toNat) (sz-a.toNat) (sz-a.toNat) t kR byteT om
    (fun j hj=>by rw[if_neg om,b2.c _ _ (Gy om)];rfl) (fun j hj=>by rw[if_neg om];exact b2.f _ (by unfold lq;rw[gF];omega))
   have FIN:=ah fin;obtain⟨o,ho⟩:=eY ((if sz=a.toNat then 0 else a.toNat));obtain⟨m,hm⟩:=eY (sz-a.toNat);obtain⟨hh,hhe⟩:=eY c.1.h;obtain⟨pb,hpb⟩:=eY c.2.1;obtain⟨gb,hgb⟩:=eY c.2.2;rw[←ho] at CU CP FIN;rw[←hm] at CU CP;rw[←hhe] at x3 d1;rw[←hpb] at x3 x2 xl A;rw[←hgb] at x2 CU CP FIN;obtain⟨W1,hW1⟩:=eX (w.setCells gb o (t.data.toList.map fun x=>Value.int .u8 (x.toNat:Int)));rw[hW1] at CP FIN;have HA:=ah A;simp only[show jW ev 0= .nilIface from rfl];clear q hi hE hx hc hf b1 b2 hhe hpb hgb ho hm A HI h1 h0 hT hTl fT ht hid ha a0 n0 a1 an hsz hb0 fin hlen hW1 SAME;go_enter Tryz.func34,Tryz.ntmps34;go_wp2_with fail;refine HA.out.mono ?_;rintro r w1 ⟨rfl,hw1⟩;obtain rfl:=hw1.symm;go_wp2;go_ret;exact FIN.out _ rfl
 ·have A:=ah (GA hsz hid ha fT h h0)
  have hcc:mQ sz s id a t.size=2∨mQ sz s id a t.size=4:=yH.resolve_left h0;have hw:sG sz s id a T=(s,mQ sz s id a t.size):=by
   revert h0;unfold sG mQ;split
   ·intro _;rfl
   ·rw[hTl]
    by_cases hb:a<0∨(t.size:Int)<0∨(sz:Int)<a∨(sz:Int)-a<(t.size:Int)
    ·rw[if_pos hb,if_pos om];intro _;rfl
    ·rw[if_neg hb];intro q;exact absurd rfl q
  rw[hw];obtain⟨p,hp⟩: ∃p,jW ev (mQ sz s id a t.size)= .iface 336 (.pointer (some p)):=by rcases hcc with q|q<;>(rw[q];exact⟨_,rfl⟩)
  simp only;rw[hp] at A ⊢;clear h h0 hcc hid ha fT hp hsz HI hE hw hT hTl ht;go_enter Tryz.func34,Tryz.ntmps34;go_wp2_with fail;refine A.out.mono ?_;rintro r w1 ⟨rfl,hb1⟩;go_wp2;go_ret;exact SAME.out _ _ hb1
end
theorem Na (n:Nat):lq (List.replicate n 0)=List.replicate n (.int .u8 0):=by unfold lq;rw[List.map_replicate];rfl
theorem Sj (n:Nat):madeCells (Value.int .u8 0).cells n=(List.replicate n (Value.int .u8 0)).toArray:=by
 unfold madeCells;apply Array.ext
 ·simp
 ·intro i h1 h2
  simp[Value.cells,Nat.mod_one]
theorem mk_bytes (sz:Nat) (h:sz≤65536) (W:World):(Instr.makeSlice 75 (.int .i64 (sz:Nat)) (.int .i64 (sz:Nat))).run Tryz.prog W= .ok (.slice (some ⟨W.heap.size,0,none⟩) sz sz) (W.alloc (.cells (lq (List.replicate sz 0)).toArray 5)):=by
 obtain⟨i0,hi0,hz0,hzs,hzb⟩:=info_parts (P:=Tryz.prog) (e:=5) (z:=.int .u8 0) (size:=1) (bytes:=1) kR;have:=run_make (P:=Tryz.prog) W 75 5 i0 _ Tryz.underlying75 hi0 hz0 .i64 .i64 (sz:Nat) (sz:Nat) om (cO _) (by rw[hzb];omega) om;rw[Na,this,hzs];simp only[bQ,Nat.mul_one];rw[Sj]
section
variable {w w':World} {S:List Nat} {ps pp bl sz:Nat} {C:BkL} {L:List Bk} {last last':Int} {c:Bk×Nat×Nat} {x y:Bk} {id:Int} {pb gb:Nat}
theorem StB.add (h:StB w ps pp bl sz C L last) (k:Keep S w w') (hs: ∀q∈S,q=ps∨q=bl) (hc:jD w' ps (storeCells' pp sz bl last')) (hx: ∀y∈L,y.id≠x.id)
 (hm:pW Tryz.prog 3 w' bl ((.int .i64 x.id,.pointer (some ⟨pb,0,none⟩))::BI (EI C) (.int .i64 x.id))) (n1: ∀q∈sws ps bl C,q≠pb∧q≠gb) (n2:pb≠gb) (h1:jD w' pb (bkC gb sz x)) (h2:jD w' gb (lq x.b)):
 StB w' ps pp bl sz (C++[(x,pb,gb)]) (L++[x]) last':=by
 have e1:delC C x.id=C:=by
  unfold delC;rw[dR];intro a ha;have:=hx a.1 (by rw[←h.l];exact bJ.2 ⟨a,ha,rfl⟩);simpa using this
 rw[delC_map,e1] at hm;refine⟨hc,hm.perm ?_,by rw[dI,h.l];rfl,fun a ha=> ?_,?_⟩
 ·have:EI (C++[(x,pb,gb)])=EI C++[(.int .i64 x.id,.pointer (some ⟨pb,0,none⟩))]:=by unfold EI;rw[dI];rfl
  rw[this];exact(jk (l₁:=[_])).trans (List.Perm.refl _)
 ·rcases aD.1 ha with q|q
  ·have m1:a.2.1∈cws C:=sZ.2 ⟨a,q,.inl rfl⟩
   have m2:a.2.2∈cws C:=sZ.2 ⟨a,q,.inr rfl⟩;exact⟨(h.b a q).1.keep k fun r=>(hs _ r).elim (h.ne.2 _ m1).1 (h.ne.2 _ m1).2,(h.b a q).2.keep k fun r=>(hs _ r).elim (h.ne.2 _ m2).1 (h.ne.2 _ m2).2⟩
  ·simp at q;subst q;exact⟨h1,h2⟩
 ·have e2:sws ps bl (C++[(x,pb,gb)])=sws ps bl C++[pb,gb]:=by unfold sws cws;rw[List.flatMap_append];rfl
  rw[e2,bD];refine⟨h.nd,by simp[n2],fun a ha b hb=> ?_⟩;simp at hb;rcases hb with rfl|rfl
  ·exact(n1 a ha).1
  ·exact(n1 a ha).2
end
section
variable {σ τ:Type} {w0:World} {P:FEnv σ w0} {V:Ov P τ} {X X0 F L:List Nat} {m:V.M} {t:τ} {w w' W:World} {r:Value} {en:Ending}
def Ov.Post (V:Ov P τ) (X F:List Nat) (m:V.M) (t:τ) (w:World) (r:Value) (en:Ending) (w':World):Prop:=
 en= .returned r∧∃X',V.T X' F m t w'∧Keep (off X F) w w'∧(∀x∈X',x∈X∨w.heap.size≤x)∧∀x∈X,x∈X'
theorem Ov.Run.finM (h:V.Run X0 F w L X m t W):V.Post X0 F m t w r (.returned r) W:=⟨rfl,X,h.at_.uI (fun g q=>aj _ q),h.run.k,h.run.x1,h.run.x2⟩
theorem Ov.Post.env (h:V.Post X F m t w r en w'):EPost V.env.S X F t w r en w':=by
 obtain⟨h1,X',h2,h3⟩:=h;exact⟨h1,X',⟨m,h2⟩,h3⟩
end
theorem unwait_8 {e:Nat} {q:Po} {o:Ob} {t:Int} (hq:q.W=[t]):sU e (q,8,o)=(o8 e q t).1:=by
 unfold sU;simp only[if_true];rw[hq];rfl
section
variable {pd pc pz e:Nat} {mn:Int} {O:List (List Int)} {ev:Nat→Addr} {w0:World} {E:tu pd pc pz e mn O ev w0} {X F S:List Nat} {w w':World} {ps pp sz:Nat} {s:St} {id a n:Int} {bl:Nat} {C:BkL} {c:Bk×Nat×Nat} {x y:Bk} {last:Int} {L:List Bk}
theorem xS.few (h:xS e sz s):s.L.length≤65536:=by
 have h1:(s.L.map (·.o)).length≤s.p.T.length:=xA h.nd fun o ho=>by
  obtain⟨x,hx,rfl⟩:=bJ.1 ho;exact h.t x hx
 have:=h.p.H7.1;rw[gF] at h1;omega
theorem Qi (k v:Int) (hlast:s.p.last<4611686018427387903) (h:(xU (jZ E pp) ps pp e sz).S X F s w) (h0:(jO mn O e s.p k v).2.1≠0):
 Calls Tryz.prog 32 #[.pointer (some ⟨ps,0,none⟩),.int .i64 k,.int .i64 v] w (EPost (xU (jZ E pp) ps pp e sz).S X F (s.atP (sU e (jO mn O e s.p k v))) w (.tuple #[.int .i64 0,jW ev (jO mn O e s.p k v).2.1])):=by
 have hO:=PoX.ord (E:=E) (show PoX E X _ pp s.p w from h.1.choose_spec.s);have HI:xS e sz (s.atP (sU e (jO mn O e s.p k v))):=by
  have:=(h.2.take (mn:=mn) hO k v).1;rwa [sH h0] at this
 have CS:=wS (mn:=mn) (k:=k) (v:=v) h.2.p h.2.w h.2.cl h.2.g hO;obtain⟨⟨⟨bl,C⟩,q⟩,hi⟩:=h;have R0:=Ov.Run.start q;have c0:=q.b.c.gC 0;have cl:=q.b.c.lt;have TK0:=vB (E:=E) (pp:=pp) k v om (show PoX E X _ pp s.p w from q.s);obtain⟨⟨p',cc,o⟩,hr⟩: ∃r,r=jO mn O e s.p k v:=⟨_,rfl⟩;rw[←hr] at HI CS TK0 h0 ⊢;simp only at CS TK0 h0 ⊢;have HR0:=ah R0;have HII:=ah HI;rcases CS with⟨r0,_⟩|⟨r2,rp,ro⟩|⟨r8,ro,rW,rT,rG,rc,rl⟩
 ·exact absurd r0 h0
 ·subst r2 ro
  have TK:=ah (show Calls Tryz.prog 13 #[.pointer (some ⟨pp,0,none⟩),.int .i64 k,.int .i64 v] w (EPost (jZ E pp).S X ((zF (jZ E pp) ps pp sz).ws (bl,C)++F) p' w (.tuple #[.agg #[.int .i64 0,.int .i64 0],.iface 336 (.pointer (some (ev 2)))])) from TK0);have eU:Hid (sU e (p',2,(0,0))=p'):=by show sU _ _=_;unfold sU;rw[if_neg sI]
  simp only[show jW ev 2= .iface 336 (.pointer (some (ev 2))) from rfl];clear q hi TK0 rp h0 hr HI hO R0 hlast;go_enter Tryz.func32,Tryz.ntmps32;go_wp2_with fail;refine TK.out.mono ?_;rintro r w2 hp;obtain⟨rfl',X2,R2,_⟩:=HR0.out.dep hp;obtain rfl:r= .returned (.tuple #[.agg #[.int .i64 0,.int .i64 0],.iface 336 (.pointer (some (ev 2)))]):=rfl';have R3:=R2.box zO;have N3:=(show jD (w2.alloc zO) w2.heap.size [.int .i64 0,.int .i64 0] from jD.mk_ w2 [.int .i64 0,.int .i64 0] 40 rfl);obtain⟨w2',GQ⟩: ∃w2',w2.alloc zO=w2':=⟨_,rfl⟩;rw[GQ] at R3 N3;have m0:=N3.gC 0;have m1:=N3.gC 1;have f0:=N3.f 0 sI;have f1:=N3.f 1 sI;have ml:=N3.lt;have R3:=R3.wr (b:=w2.heap.size) sI ((Keep.refl [w2.heap.size] w2').Dy (b:=w2.heap.size) (.inl sI) (.int .i64 0) (.int .i64 0));obtain⟨w3,hw3⟩:=eX ((w2'.setCell ⟨w2.heap.size,0,none⟩ (.int .i64 0)).setCell ⟨w2.heap.size,1,none⟩ (.int .i64 0));rw[hw3] at R3;have hE3:pY w0.heap.size ev w3:=E.err.go ((jZ E pp).bel R3.at_.s);have gs:w3.cell? ⟨8,0,none⟩=some (.iface 336 (.pointer (some (ev 8)))):=(hE3.at 8 (by decide) (by decide)).1;have gl:8<w3.heap.size:=(hE3.at 8 (by decide) (by decide)).2;have IS:=ah (uU 2 8 w3 hE3 (by decide) (by decide) (by decide) (by decide));rw[show decide (2=8)=false from rfl] at IS;have HR3:=ah R3;clear hp R2 R3 hE3 TK c0 cl N3;unfold zO at GQ;go_wp2_with fail;clear hw3 GQ;refine IS.out.mono ?_;rintro r w4 ⟨rfl,hw4⟩;obtain rfl:=hw4;go_wp2;go_ret2
  exact FEnv.Bd (by rw[eU.out];exact HR3.out.fin) HII.out
 ·subst r8 ro
  have TK:=ah (show Calls Tryz.prog 13 #[.pointer (some ⟨pp,0,none⟩),.int .i64 k,.int .i64 v] w (EPost (jZ E pp).S X ((zF (jZ E pp) ps pp sz).ws (bl,C)++F) p' w (.tuple #[.agg #[.int .i64 0,.int .i64 0],.iface 336 (.pointer (some (ev 8)))])) from TK0);have eU:Hid (sU e (p',8,(0,0))=(o8 e p' (s.p.last+1)).1):=unwait_8 rW;simp only[show jW ev 8= .iface 336 (.pointer (some (ev 8))) from rfl];have HW:=ah rW;have fT:Hid (kL (s.p.last+1)):=⟨by have:=hi.p.l0;omega,om⟩;have HL:Hid (p'.last<4611686018427387904):=by show _<_;omega
  clear q hi TK0 h0 hr HI hO R0 hlast rW rT rG rc rl;go_enter Tryz.func32,Tryz.ntmps32;go_wp2_with fail;refine TK.out.mono ?_;rintro r w2 hp;obtain⟨rfl',X2,R2,_⟩:=HR0.out.dep hp;obtain rfl:r= .returned (.tuple #[.agg #[.int .i64 0,.int .i64 0],.iface 336 (.pointer (some (ev 8)))]):=rfl';have R3:=R2.box zO;have N3:=(show jD (w2.alloc zO) w2.heap.size [.int .i64 0,.int .i64 0] from jD.mk_ w2 [.int .i64 0,.int .i64 0] 40 rfl);obtain⟨w2',GQ⟩: ∃w2',w2.alloc zO=w2':=⟨_,rfl⟩;rw[GQ] at R3 N3;have m0:=N3.gC 0;have m1:=N3.gC 1;have f0:=N3.f 0 sI;have f1:=N3.f 1 sI;have ml:=N3.lt;have R3:=R3.wr (b:=w2.heap.size) sI ((Keep.refl [w2.heap.size] w2').Dy (b:=w2.heap.size) (.inl sI) (.int .i64 0) (.int .i64 0));obtain⟨w3,hw3⟩:=eX ((w2'.setCell ⟨w2.heap.size,0,none⟩ (.int .i64 0)).setCell ⟨w2.heap.size,1,none⟩ (.int .i64 0));rw[hw3] at R3;have hE3:pY w0.heap.size ev w3:=E.err.go ((jZ E pp).bel R3.at_.s);have gs:w3.cell? ⟨8,0,none⟩=some (.iface 336 (.pointer (some (ev 8)))):=(hE3.at 8 (by decide) (by decide)).1;have gl:8<w3.heap.size:=(hE3.at 8 (by decide) (by decide)).2;have IS:=ah (uU 8 8 w3 hE3 (by decide) (by decide) (by decide) (by decide));rw[show decide (8=8)=true from rfl] at IS;have WT:=ah (uo (E:=E) (pp:=pp) (p:=p') (show PoX E _ _ pp p' w3 from R3.at_.s));have c0:=R3.at_.b.c.gC 0;have cl:=R3.at_.b.c.lt;have HR3:=ah R3;clear hp R2 R3 hE3 TK N3;unfold zO at GQ;go_wp2_with fail;clear hw3 GQ;refine IS.out.mono ?_;rintro r w4 ⟨rfl,hw4⟩;obtain rfl:=hw4;go_wp2_with fail;refine WT.out.mono ?_
  rintro r w5 ⟨⟨qw,kw,rfl,ho⟩,hb5⟩;rw[HW.out] at ho;obtain⟨gw,hgw⟩: ∃gw,qw=some ⟨gw,0,none⟩:=by
   rcases ho.2 with⟨r,_⟩|⟨g,cap,cur,r,_⟩
   ·injection r with _ r _;cases r
   ·injection r with r _ _;exact⟨g,r⟩
  subst hgw;have x0:w5.cell? ⟨gw,0,none⟩=some (.int .i64 (s.p.last+1)):=by
   have:=ho.cells rfl 0 (.int .i64 (s.p.last+1)) rfl;rwa [addr_add] at this
  have xl:gw<w5.heap.size:=(ho.lt gw rfl).2;have hWl:p'.W.length=1:=by rw[HW.out];rfl
  have wz:IntKind.i64.wrap 0=0:=by decide
  rw[hWl];have R5:=HR3.out.go hb5;have R6:=R5.go (show Below w5.heap.size w5 w5.drew from(aO _ _).drew);have y0:=R5.at_.b.c.gC 0;have yl:=R5.at_.b.c.lt;have CN:=ah (AA (E:=E) (pp:=pp) (p:=p') (s.p.last+1) fT.out HL.out (show PoX E _ _ pp p' w5.drew from R6.at_.s));have HR6:=ah R6;clear R5 R6 ho hb5 hWl WT IS gs gl c0 cl;go_wp2_with fail;refine kX 10 kR kR ?_;simp only[aQ,aW,aP,aU];repeat still_step
  refine wpStill_nil ?_;go_wp2_with fail;refine CN.out.mono ?_;rintro r w7 hp;obtain⟨rfl,X7,R7,_⟩:=HR6.out.dep hp;have HR7:=ah R7;clear hp R7;go_wp2;go_ret2
  exact FEnv.Bd (by rw[eU.out];exact HR7.out.fin) HII.out
theorem Dq (k v:Int) (hsz:sz≤65536) (hlast:s.p.last<4611686018427387903) (hl2:s.last<4611686018427387903) (q:(zF (jZ E pp) ps pp sz).T X F (bl,C) s w) (hi:xS e sz s) (h0:(jO mn O e s.p k v).2.1=0):
 Calls Tryz.prog 32 #[.pointer (some ⟨ps,0,none⟩),.int .i64 k,.int .i64 v] w fun r w'=>∃pb gb,(zF (jZ E pp) ps pp sz).Post X F (bl,C++[(yG sz s (jO mn O e s.p k v).2.2,pb,gb)]) ⟨(jO mn O e s.p k v).1,s.L++[yG sz s (jO mn O e s.p k v).2.2],s.last+1⟩ w (.tuple #[.int .i64 (s.last+1),.nilIface]) r w':=by
 have hO:=PoX.ord (E:=E) (show PoX E X _ pp s.p w from q.s);have R0:=Ov.Run.start q;have c0:=q.b.c.gC 0;have cl:=q.b.c.lt;have TK0:=vB (E:=E) (pp:=pp) k v om (show PoX E X _ pp s.p w from q.s);obtain⟨⟨p',cc,o⟩,hr⟩: ∃r,r=jO mn O e s.p k v:=⟨_,rfl⟩;rw[←hr] at TK0 h0 ⊢;simp only at TK0 h0 ⊢;subst h0;have TK:=ah (show Calls Tryz.prog 13 #[.pointer (some ⟨pp,0,none⟩),.int .i64 k,.int .i64 v] w (EPost (jZ E pp).S X ((zF (jZ E pp) ps pp sz).ws (bl,C)++F) p' w (.tuple #[.agg #[.int .i64 o.1,.int .i64 o.2],.nilIface])) from TK0);have HR0:=ah R0;obtain⟨l,hl⟩:=eY s.last;have HLL:=ah hl;have l0:=hi.l0;rw[←hl] at l0;have fL:Hid (kL (l+1)):=⟨om,om⟩;have wl:IntKind.i64.wrap (l+1)=l+1:=bB _ om;have FEW:=ah hi.few;have RNG:=ah hi.rng;have HSZ:=ah hsz;rw[←hl];clear q hi TK0 hr hO R0 hlast hl hl2 l0 hsz;go_enter Tryz.func32,Tryz.ntmps32;go_wp2_with fail;refine TK.out.mono ?_;rintro r w2 hp;obtain⟨rfl',X2,R2,_⟩:=HR0.out.dep hp;obtain rfl:r= .returned (.tuple #[.agg #[.int .i64 o.1,.int .i64 o.2],.nilIface]):=rfl';have R3:=R2.box (bO o);have N3:=(show jD (w2.alloc (bO o)) w2.heap.size [.int .i64 o.1,.int .i64 o.2] from jD.mk_ w2 [.int .i64 o.1,.int .i64 o.2] 40 rfl);obtain⟨w3,hw3⟩:=eX (w2.alloc (bO o));rw[hw3] at R3 N3;have hE3:pY w0.heap.size ev w3:=E.err.go ((jZ E pp).bel R3.at_.s);have gs:w3.cell? ⟨8,0,none⟩=some (.iface 336 (.pointer (some (ev 8)))):=(hE3.at 8 (by decide) (by decide)).1;have gl:8<w3.heap.size:=(hE3.at 8 (by decide) (by decide)).2;have IS:=ah (UQ (ev 8) w3);have C3:=R3.at_.b.c;have M3:=R3.at_.b.m
 have c3:=C3.gC 3;have cf:=C3.f 3 (by simp[storeCells']);have c3l:=C3.lt;rw[show(((zF (jZ E pp) ps pp sz).set s p'):St).last=s.last from rfl,←HLL.out] at c3;have nb:bl≠ps:=R3.at_.b.ne.1.symm;have nx:w2.heap.size≠ps:=fun r=>R3.nL (b:=w2.heap.size) sI (oG.2 (.inl r))
 obtain⟨w4,hw4⟩:=eX (w3.setCell ⟨ps,3,none⟩ (.int .i64 (l+1)));have k34:Keep [ps] w3 w4:=by rw[←hw4];exact(Keep.refl _ _).setCell (p:=⟨ps,3,none⟩) (.inl sI) _
 have C4:jD w4 ps (storeCells' pp sz bl (l+1)):=by rw[←hw4];exact C3.store 3 (.int .i64 (l+1)) (by simp[storeCells'])
 have N4:=N3.keep k34 (by simpa using nx);have M4:=M3.keep k34 (by simpa using nb);have MK:=ah (mk_bytes sz HSZ.out);have G6:=jD.new w4 (lq (List.replicate sz 0)) 5;have P7:jD ((w4.alloc (.cells (lq (List.replicate sz 0)).toArray 5)).alloc (.cells #[.int .i64 o.1,.int .i64 o.2,.slice (some ⟨w4.heap.size,0,none⟩) sz sz,.int .i64 1] 163)) (w4.alloc (.cells (lq (List.replicate sz 0)).toArray 5)).heap.size (bkC w4.heap.size sz (yG sz s o)):=jD.new _ _ 163;rw[show(w4.alloc (.cells (lq (List.replicate sz 0)).toArray 5)).heap.size=w4.heap.size+1 by simp] at P7;have G7:=G6.keep (w':=((w4.alloc (.cells (lq (List.replicate sz 0)).toArray 5)).alloc (.cells #[.int .i64 o.1,.int .i64 o.2,.slice (some ⟨w4.heap.size,0,none⟩) sz sz,.int .i64 1] 163)).drew) (((Keep.refl [] _).alloc _).drew) sI;have P7:=P7.keep ((Keep.refl [] _).drew) sI;have k47:Keep [] w4 ((w4.alloc (.cells (lq (List.replicate sz 0)).toArray 5)).alloc (.cells #[.int .i64 o.1,.int .i64 o.2,.slice (some ⟨w4.heap.size,0,none⟩) sz sz,.int .i64 1] 163)).drew:=(((Keep.refl _ _).alloc _).alloc _).drew;have z7:((w4.alloc (.cells (lq (List.replicate sz 0)).toArray 5)).alloc (.cells #[.int .i64 o.1,.int .i64 o.2,.slice (some ⟨w4.heap.size,0,none⟩) sz sz,.int .i64 1] 163)).drew.heap.size=w4.heap.size+2:=sI;obtain⟨w7,hw7⟩:=eX (((w4.alloc (.cells (lq (List.replicate sz 0)).toArray 5)).alloc (.cells #[.int .i64 o.1,.int .i64 o.2,.slice (some ⟨w4.heap.size,0,none⟩) sz sz,.int .i64 1] 163)).drew);rw[hw7] at P7 G7 k47 z7;have M7:=M4.keep k47 sI
 have eL:(EI C).length=s.L.length:=by
  have:=R3.at_.b.l;have e2:C.map (·.1)=s.L:=this;rw[←e2];simp[EI]
 obtain⟨w8,hup,M8,ht⟩:=M7.put (t:=158) uO iZ (by rw[eL];have:=FEW.out;unfold maxLen;omega) (key:=.int .i64 (l+1)) (val:=.pointer (some ⟨w4.heap.size+1,0,none⟩)) (keyOf_int_mk bE (wf64 fL.out));have k78:Keep [bl] w7 w8:=lM ht (.inl sI);have k38:Keep [ps,bl] w3 w8:=((k34.mono (fun q t=>by simp at t;subst t;simp)).then (k47.mono (fun q t=>by cases t))).then (k78.mono (fun q t=>by simp at t;subst t;simp));have C8:=(C4.keep k47 sI).keep k78 (by simpa using nb.symm);have z34:=k34.size;have z78:=k78.size;have lim3: ∀y∈sws ps bl C,y<w3.heap.size:=fun y hy=>R3.lt (show y∈(zF (jZ E pp) ps pp sz).ws (bl,C) from hy)
 have lbl:=lim3 bl (oG.2 (.inr (.inl rfl)));have P8:=P7.keep k78 (by simp;omega);have G8:=G7.keep k78 (by simp;omega);rw[←hw7] at hup;have SB:StB w8 ps pp bl sz (C++[(yG sz s o,w4.heap.size+1,w4.heap.size)]) (s.L++[yG sz s o]) (l+1):=StB.add (L:=s.L) R3.at_.b k38 (fun q t=>by simpa using t) C8 (fun y hy=>by
  have:=(RNG.out y hy).2;have:=HLL.out;show y.id≠s.last+1;omega) (by rw[show(yG sz s o).id=l+1 from by rw[HLL.out];rfl];exact M8) (fun y hy=>⟨by have:=lim3 y hy;omega,by have:=lim3 y hy;omega⟩) om P8 G8
 have ws': ∀{y:Nat},y∈sws ps bl (C++[(yG sz s o,w4.heap.size+1,w4.heap.size)])→y∈sws ps bl C∨y=w4.heap.size+1∨y=w4.heap.size:=fun {y} hy=>by
  rcases oG.1 hy with q|q|q
  ·exact .inl (oG.2 (.inl q))
  ·exact .inl (oG.2 (.inr (.inl q)))
  ·obtain⟨c,hc,hb⟩:=sZ.1 q
   rcases aD.1 hc with u|u
   ·exact .inl (oG.2 (.inr (.inr (sZ.2 ⟨c,u,hb⟩))))
   ·simp at u;subst u;exact .inr hb
 have hk:Keep ((zF (jZ E pp) ps pp sz).ws (bl,C)++[w2.heap.size]) w3 w8:=k38.mono fun q t=>by
  simp at t;refine av _ ?_;rcases t with rfl|rfl
  ·exact oG.2 (.inl rfl)
  ·exact oG.2 (.inr (.inl rfl))
 have hb':(zF (jZ E pp) ps pp sz).B (bl,C++[(yG sz s o,w4.heap.size+1,w4.heap.size)]) ⟨p',s.L++[yG sz s o],l+1⟩ w8:=SB;obtain⟨X8,R8⟩:=Ov.Run.put (V:=zF (jZ E pp) ps pp sz) (m:=(bl,C)) (m':=(bl,C++[(yG sz s o,w4.heap.size+1,w4.heap.size)])) (t':=⟨p',s.L++[yG sz s o],l+1⟩) (L':=[]) R3 hk
  (fun y t=>(ws' t).elim .inl fun u=>.inr (.inr (by rcases u with u|u<;>omega)))
  (fun y t=>by
    rcases ws' t with u|u|u
    ·have:=lim3 y u;omega
    ·omega
    ·omega) (fun q t=>by cases t) hb' rfl
 have HR8:=ah R8;have x1:=C4.gC 1;have x2:=C4.gC 2;have x3:=C4.gC 3;have xl:=C4.lt;have n0:=N4.gC 0;have n1:=N4.gC 1;have nl:=N4.lt;have u3:=C8.gC 3;have ul:=C8.lt;clear hp R2 R3 hE3 TK N3 C3 M3 nb nx k34 C4 N4 M4 G6 G7 P7 z7 k47 M7 eL M8 ht hw7 k78 k38 C8 z34 z78 lim3 lbl P8 G8 SB ws' hk hb' R8 c0 cl HR0;unfold bO at hw3;go_wp2_with fail;clear hw3;refine IS.out.mono ?_;rintro r w5 ⟨rfl,hw5⟩;obtain rfl:=hw5;go_wp2_with fail;clear hw4 c3 cf c3l gs gl;refine jN (S:=(fun w'=>w'.cell? ⟨ps,1,none⟩=some (.int .i64 sz)∧w'.cell? ⟨ps,2,none⟩=some (.map (some bl))∧w'.cell? ⟨ps,3,none⟩=some (.int .i64 (l+1))∧w'.cell? ⟨w2.heap.size,0,none⟩=some (.int .i64 o.1)∧w'.cell? ⟨w2.heap.size,1,none⟩=some (.int .i64 o.2))) 16 #[false,false,false,false,false,false,false,false,false,false,false,false,false,false,false,false] rfl kR kR (by(try dsimp only);go_keep) (fun hHeld=> ?_);simp only[aQ,aW];refine tk 0 ?_;try simp only[Act.put,pA,pZ,pS]
 refine tk 1 ?_;try simp only[Act.put,pA,pZ,pS]
 refine tk 2 ?_;try simp only[Act.put,pA,pZ,pS]
 refine tk 3 ?_;try simp only[Act.put,pA,pZ,pS]
 refine tk 4 ?_;try simp only[Act.put,pA,pZ,pS]
 refine tk 5 ?_;try simp only[Act.put,pA,pZ,pS]
 refine tk 6 ?_;try simp only[Act.put,pA,pZ,pS]
 refine tk 7 ?_;try simp only[Act.put,pA,pZ,pS]
 refine tk 8 ?_;try simp only[Act.put,pA,pZ,pS]
 refine tk 9 ?_;try simp only[Act.put,pA,pZ,pS]
 refine tk 10 ?_;try simp only[Act.put,pA,pZ,pS]
 refine tk 11 ?_;try simp only[Act.put,pA,pZ,pS]
 refine tk 12 ?_;try simp only[Act.put,pA,pZ,pS]
 refine wpAnyH_ready (rs:=[13]) kR sI ?_;refine aR (jH rfl) (fun K hK=> ?_) aX;refine Ai rf 75 (.tmp 62) (.tmp 62) rf (.int .i64 (sz:Nat)) (.int .i64 (sz:Nat)) rf rf (MK.out _) ?_;refine hK.out _ _ (by(try dsimp only);go_keep) (fun hHeld=> ?_);clear hK K;try simp only[Act.put,pA,pZ,pS]
 refine tk 14 ?_;try simp only[Act.put,pA,pZ,pS]
 refine wpAnyH_ready (rs:=[15]) kR sI ?_;refine aR (jH rfl) (fun K hK=> ?_) aX;go_simp
 refine hK.out _ _ (by(try dsimp only);go_keep) (fun hHeld=> ?_);clear hK K;try simp only[Act.put,pA,pZ,pS]
 refine wpAnyH_done kR ?_ _;simp only[nX,aP,aU];go_wp2;go_ret2
 exact⟨_,_,HR8.out.finM⟩
theorem Nb (k v:Int) (hsz:sz≤65536) (hlast:s.p.last<4611686018427387903) (hl2:s.last<4611686018427387903) (h:(xU (jZ E pp) ps pp e sz).S X F s w):
 Calls Tryz.prog 32 #[.pointer (some ⟨ps,0,none⟩),.int .i64 k,.int .i64 v] w (EPost (xU (jZ E pp) ps pp e sz).S X F (uq mn O e sz s k v).1 w (.tuple #[.int .i64 (uq mn O e sz s k v).2.2,jW ev (uq mn O e sz s k v).2.1])):=by
 by_cases h0:(jO mn O e s.p k v).2.1=0
 ·have hO:=PoX.ord (E:=E) (show PoX E X _ pp s.p w from h.1.choose_spec.s)
  have HI:=(h.2.take (mn:=mn) hO k v).1;rw[qQ h0] at HI ⊢;obtain⟨⟨⟨bl,C⟩,q⟩,hi⟩:=h;refine(Dq k v hsz hlast hl2 q hi h0).mono ?_;rintro r w' ⟨pb,gb,hp⟩;exact FEnv.Bd hp.env HI
 ·rw[sH h0]
  exact Qi k v hlast h h0
end
end Go.Proofs.YtehhldljdakgeaaGreatDoor
