/- Lemmas and contracts for the claim's last text: DTake, SAp, DTakeA. -/
import Derived.Test.YtehhldljdakgeaaGreatDoorQa01
import Derived.Test.YtehhldljdakgeaaGreatDoorQa14
set_option linter.unusedSimpArgs false
set_option linter.unusedVariables false
set_option maxHeartbeats 16000000
set_option maxRecDepth 100000
namespace Go.Proofs.YtehhldljdakgeaaGreatDoor
open Go.RowKit Go.Maps
attribute [local go_sem ↓] aJ aK
section
variable {X Y S F:List Nat} {B:Nat} {ev:Nat→Addr} {w w':World} {pd pc pz gh e:Nat} {mn lw hi:Int} {O:List (List Int)} {v vp vp':Value} {A:SA} {V:HV} {U U':List Value} {d:De} {c:Ca} {P':List (List Ob)}
theorem CD.far (h:CD B w X pd pc pz gh mn lw hi O e v A V vp U d) (y:Nat) (hy:y∈day pd gh vp):y∈X∧y∉cay pc v A∧y∉ys d.c.L:=⟨h.de.mem y hy,h.ne y hy⟩
theorem CD.mJ (h:CD B w X pd pc pz gh mn lw hi O e v A V vp U d):gh∈day pd gh vp:=ak _ (aG ..)
theorem CD.uY (h:CD B w X pd pc pz gh mn lw hi O e v A V vp U d):pd∈day pd gh vp:=aG ..
theorem CD.wN (h:CD B w X pd pc pz gh mn lw hi O e v A V vp U d) (k:Nat) {p':Value×Value} {h':Hd} (hk:k<d.H.length) (r1:lG X w p'.1 h'.1) (r2:lG X w p'.2 h'.2) (kk:Keep [gh] w w') (hg:jD w' gh (l6 (V.set k p'))):
 CD B w' X pd pc pz gh mn lw hi O e v A (V.set k p') vp U ⟨d.c,d.H.set k h',d.P⟩:=by
 obtain⟨n0,nn⟩:=aS.1 h.de.nd;obtain⟨n1,n2⟩:=aS.1 nn;have hpg:pd≠gh:=fun q=>n0 (q▸aG ..)
 have fg:=h.far gh h.mJ;have hs: ∀s∈[gh],s∈X∨w.heap.size≤s:=fun s q=>by simp at q;subst q;exact .inl fg.1
 refine⟨h.x,h.limK kk,h.cs.z.keep kk (fun s q=>by simp at q;subst q;exact .inl ⟨fg.1,fg.2.2⟩) |> fun z=>⟨z,h.cs.ch.keep kk (fun s q=>by simp at q;subst q;exact fg.2.1),h.cs.ne,h.cs.l0⟩,?_,h.ne⟩;refine⟨?_,hg,by simp[h.de.hl],fun i p g hp hg'=> ?_,jE h.de.row kk (fun s q=>by simp at q;subst q;exact n1),h.de.ul,fun i u m hu hm=>(h.de.po i u m hu hm).keep kk hs,h.de.mem,h.de.nd,fun y hy=>⟨(h.de.lim y hy).1,aC (h.de.lim y hy).2 kk.size⟩⟩
 ·rw[bZ]
  exact h.de.d.keep kk (by simpa using hpg)
 ·by_cases q:k=i
  ·subst q
   rw[aY (by rw[h.de.hl];exact hk)] at hp;rw[aY hk] at hg';obtain rfl:=aI hp;obtain rfl:=aI hg';exact⟨r1.keep kk hs,r2.keep kk hs⟩
  ·rw[bL q] at hp hg'
   exact⟨(h.de.ho i p g hp hg').1.keep kk hs,(h.de.ho i p g hp hg').2.keep kk hs⟩
theorem CD.DZ (h:CD B w X pd pc pz gh mn lw hi O e v A V vp U d) (k:Nat) {p':Value×Value} {h':Hd} (hk:k<d.H.length) (r1:lG X w p'.1 h'.1) (r2:lG X w p'.2 h'.2) (kk:Keep [gh,pd] w w') (hg:jD w' gh (l6 (V.set k p')))
 (hd:jD w' pd [.pointer (some ⟨pc,0,none⟩),.slice (some ⟨gh,0,none⟩) d.H.length d.H.length,vp']) (row:w'.ownsRow B 38 1 vp' P'.length U') (ul:U'.length=P'.length)
 (po: ∀(i:Nat) (u:Value) (m:List Ob),U'[i]?=some u→P'[i]?=some m→lG X w u m) (hown:jF vp'=jF vp):
 CD B w' X pd pc pz gh mn lw hi O e v A (V.set k p') vp' U' ⟨d.c,d.H.set k h',P'⟩:=by
 have fg:=h.far gh h.mJ;have fp:=h.far pd h.uY;have hs: ∀s∈[gh,pd],s∈X∨w.heap.size≤s:=fun s q=>by
  simp at q;rcases q with rfl|rfl
  ·exact .inl fg.1
  ·exact .inl fp.1
 have ed:day pd gh vp'=day pd gh vp:=by unfold day;rw[hown]
 refine⟨by unfold xd;rw[ed];exact h.x,h.limK kk,h.cs.z.keep kk (fun s q=>by
  simp at q;rcases q with rfl|rfl
  ·exact .inl ⟨fg.1,fg.2.2⟩
  ·exact .inl ⟨fp.1,fp.2.2⟩) |> fun z=>⟨z,h.cs.ch.keep kk (fun s q=>by
  simp at q;rcases q with rfl|rfl
  ·exact fg.2.1
  ·exact fp.2.1),h.cs.ne,h.cs.l0⟩,?_,by rw[ed];exact h.ne⟩
 refine⟨by rw[bZ];exact hd,hg,by simp[h.de.hl],fun i p g hp hg'=> ?_,row,ul,fun i u m hu hm=>(po i u m hu hm).keep kk hs,by rw[ed];exact h.de.mem,by rw[ed];exact h.de.nd,fun y hy=> ?_⟩
 ·by_cases q:k=i
  ·subst q
   rw[aY (by rw[h.de.hl];exact hk)] at hp;rw[aY hk] at hg';obtain rfl:=aI hp;obtain rfl:=aI hg';exact⟨r1.keep kk hs,r2.keep kk hs⟩
  ·rw[bL q] at hp hg'
   exact⟨(h.de.ho i p g hp hg').1.keep kk hs,(h.de.ho i p g hp hg').2.keep kk hs⟩
 ·rw[ed] at hy
  exact⟨(h.de.lim y hy).1,aC (h.de.lim y hy).2 kk.size⟩
theorem CD.hand (h:CD B w X pd pc pz gh mn lw hi O e v A V vp U d) {k:Nat} {g:Hd} (hk:d.H[k]?=some g): ∃p,V[k]?=some p∧lG X w p.1 g.1∧lG X w p.2 g.2∧w.cell? ⟨gh,k*2,none⟩=some p.1∧w.cell? ⟨gh,k*2+1,none⟩=some p.2∧w.frozen? ⟨gh,k*2,none⟩=false∧w.frozen? ⟨gh,k*2+1,none⟩=false∧gh<w.heap.size:=by
 have hl:=(au.1 hk).1;obtain⟨p,hp⟩: ∃p,V[k]?=some p:=⟨V[k]'(by rw[h.de.hl];exact hl),aA _⟩;obtain⟨g1,g2⟩:=o7 hp;obtain⟨o1,o2⟩:=h.de.ho k p g hp hk;have hv:V.length=d.H.length:=h.de.hl;exact⟨p,hp,o1,o2,h.de.hs.c _ _ g1,h.de.hs.c _ _ g2,h.de.hs.f _ (by rw[kP];omega),h.de.hs.f _ (by rw[kP];omega),h.de.hs.lt⟩
theorem CD.loc1 (h:CD B w X pd pc pz gh mn lw hi O e v A V vp U d) {k:Nat} {p:Value×Value} (hp:V[k]?=some p) (hk:k<d.H.length) (x:Value):jD (w.setCell ⟨gh,k*2,none⟩ x) gh (l6 (V.set k (x,p.2))):=by
 have hv:V.length=d.H.length:=h.de.hl;have h1:=h.de.hs.store (k*2) x (by rw[kP];omega);rw[xB _ om];have h2:=(o7 hp).2;have e1:((l6 V).set (k*2) x).set (k*2+1) p.2=(l6 V).set (k*2) x:=by
  apply je;intro i;by_cases q:k*2+1=i
  ·subst q
   rw[aY (by rw[bZ,kP];omega),bL om,h2]
  ·rw[bL q]
 simp only[e1];exact h1
theorem BG {g k:Nat} {W:World} (h:jD W g (l6 V)) {p:Value×Value} (hp:V[k]?=some p) (x:Value):jD (W.setCell ⟨g,k*2,none⟩ x) g (l6 (V.set k (x,p.2))):=by
 have hk:=(au.1 hp).1;have h1:=h.store (k*2) x (by rw[kP];omega);rw[xB _ hk];have h2:=(o7 hp).2;have e1:((l6 V).set (k*2) x).set (k*2+1) p.2=(l6 V).set (k*2) x:=by
  apply je;intro i;by_cases q:k*2+1=i
  ·subst q
   rw[aY (by rw[bZ,kP];omega),bL om,h2]
  ·rw[bL q]
 simp only[e1];exact h1
theorem hloc2 {g k:Nat} {W:World} (h:jD W g (l6 V)) {p:Value×Value} (hp:V[k]?=some p) (x:Value):jD (W.setCell ⟨g,k*2+1,none⟩ x) g (l6 (V.set k (p.1,x))):=by
 have hk:=(au.1 hp).1;have h1:=h.store (k*2+1) x (by rw[kP];omega);rw[xB _ hk];have h2:=(o7 hp).1;have e1:(l6 V).set (k*2) p.1=l6 V:=by
  apply je;intro i;by_cases q:k*2=i
  ·subst q
   rw[aY (by rw[kP];omega),h2]
  ·rw[bL q]
 simp only[e1];exact h1
theorem Ik {k:Nat} (p q:Value×Value):(V.set k p).set k q=V.set k q:=List.set_set ..
theorem yM {k:Nat} (hk:k<V.length) (p:Value×Value):(V.set k p)[k]?=some p:=aY hk
def rZ (B:Nat) (ev:Nat→Addr) (pd pc pz gh:Nat) (mn lw hi:Int) (O:List (List Int)) (e:Nat) (X F:List Nat) (w:World) (r:De×Nat×Ob) (en:Ending) (w':World):Prop:=
 en= .returned (.tuple #[obV r.2.2,jW ev r.2.1])∧∃X',CDx B w' X' F pd pc pz gh mn lw hi O e r.1∧Keep (off X F) w w'∧(∀x∈X',x∈X∨w.heap.size≤x)∧∀x∈X,x∈X'
theorem Uj (k n:Int) (u:Bool) (hE:yL B ev w) (h:CD B w X pd pc pz gh mn lw hi O e v A V vp U d) (hF:Hid (∀f∈F,f∈X∧f∉xd pc v A d.c.L pd gh vp)) (hk:nY d k=none):
 Calls Tryz.prog 23 #[.pointer (some ⟨pd,0,none⟩),.int .i64 k,.int .i64 n,.bool u] w (rZ B ev pd pc pz gh mn lw hi O e X F w (takeD mn O e d k n u)):=by
 rw[tN hk];have b1:Below w.heap.size w (w.alloc (.cells #[.int .i64 0,.int .i64 0] 40)):=jK;have L1:=ah (jD.mk_ w [.int .i64 0,.int .i64 0] 40 rfl);have NO:=ah (FJ (hE.go b1).c (h.below b1) k (vQ hk));have e1:jW ev 2= .iface 336 (.pointer (some (ev 2))):=rfl;have FIN:Hid (∀W,Below w.heap.size w W→rZ B ev pd pc pz gh mn lw hi O e X F w (d,2,(0,0)) (.returned (.tuple #[.agg #[.int .i64 0,.int .i64 0],.iface 336 (.pointer (some (ev 2)))])) W):=fun W b=>⟨rfl,X,⟨_,_,_,_,_,h.below b,hF.out⟩,Keep.of b,fun _ q=>.inl q,fun _ q=>q⟩
 rw[e1] at NO;clear h hk hE e1 b1;go_enter Tryz.func23,jw;go_wp2_with fail;refine NO.out.mono ?_;rintro r w1 ⟨rfl,hb1⟩;have M:=L1.out.go hb1;have m0:=M.gC 0;have m1:=M.gC 1;have f0:=M.f 0 sI;have f1:=M.f 1 sI;have ml:=M.lt;have HM:=ah (M.kH (.int .i64 0) (.int .i64 0));clear M NO L1;go_wp2;have x0:=HM.out.gC 0;have x1:=HM.out.gC 1;exact bodyPost_ret (v:=.tuple #[.agg #[.int .i64 0,.int .i64 0],.iface 336 (.pointer (some (ev 2)))]) (by simp[x0,x1,results,j4,go_sem]) rfl (FIN.out _ jK)
end
theorem CZ (e:Nat) (C:List Sl):(oM e C).length=qZ C:=by
 unfold oM qZ;rw[List.length_flatMap];congr 1
 refine fO fun s _=> ?_
 unfold obsS jQ nN;rw[List.length_filterMap_eq_countP];have key: ∀T:List Bool,(List.range T.length).countP (fun k=>(if T[k]?=some true then some (u7 e s k) else none).isSome)=T.countP id:=by
  intro T;induction T with
  |nil=>rfl
  |cons b T ih=>
   rw[dF,List.range_succ_eq_map,List.countP_cons,List.countP_map];have e2:(List.range T.length).countP ((fun k=>(if (b::T)[k]?=some true then some (u7 e s k) else none).isSome) ∘ Nat.succ)=(List.range T.length).countP (fun k=>(if T[k]?=some true then some (u7 e s k) else none).isSome):=by
    refine List.countP_congr fun k _=> ?_
    simp only[Function.comp,List.getElem?_cons_succ,Nat.succ_eq_add_one];by_cases q:T[k]?=some true<;>simp[q]
   rw[e2,ih];cases b<;>simp
 exact key s.T
theorem nO {e:Nat} {c:Ca} (h:tq e c):(oM e c.C).length≤65536:=by
 rw[CZ];obtain⟨h1,h2⟩:=DU (C:=c.C) fun s hs=>by rw[h.len s hs];unfold jR;exact dN _ _
 have:=h.few;omega
structure ApS (B:Nat) (w0:World) (pc pz:Nat) (mn lw hi:Int) (O:List (List Int)) (e:Nat) (L:List Nd) (X:List Nat) (v:Value) (A:SA) (c:Ca) (w:World):Prop where
 cs:CS B w pc pz mn lw hi O e X v A c
 inv:tq e c
 only:OnlyP c
 same:qE L c.L
 bel:Below B w0 w
section
variable {B:Nat} {ev:Nat→Addr} {w0 w w':World} {pc pz e:Nat} {mn lw hi:Int} {O:List (List Int)} {L:List Nd} {X:List Nat} {v:Value} {A:SA} {c:Ca}
end
section
variable {X Y S F:List Nat} {B:Nat} {ev:Nat→Addr} {w w':World} {pd pc pz gh e:Nat} {mn lw hi:Int} {O:List (List Int)} {v vp vp':Value} {A:SA} {V:HV} {U U':List Value} {d:De} {c:Ca} {P':List (List Ob)}
theorem nS {k:Nat} {g:Hd} (h:d.H[k]?=some g):nY d k=some g:=by
 unfold nY;rw[if_neg om,bQ,h]
theorem dtake_A (k:Nat) (n:Int) (u:Bool) (h:CD B w X pd pc pz gh mn lw hi O e v A V vp U d) (hF:Hid (∀f∈F,f∈X∧f∉xd pc v A d.c.L pd gh vp)) (hI:oH e d) {l r:List Ob} {o:Ob} (hk:d.H[k]?=some (l++[o],r)):
 Calls Tryz.prog 23 #[.pointer (some ⟨pd,0,none⟩),.int .i64 k,.int .i64 n,.bool u] w (rZ B ev pd pc pz gh mn lw hi O e X F w (takeD mn O e d k n u)):=by
 have hkl:=(au.1 hk).1;have hl4:=(hI.h4 _ (aF hk)).1;have ld:lZ (l++[o],r) d.P=((l++[o],r),d.P):=by unfold lZ;rw[if_neg sI]
 have et:takeD mn O e d k n u=(⟨d.c,d.H.set k (l,r),d.P⟩,0,o):=by
  rw[mD (nS hk) (o:=o) (by rw[ld];simp),ld];simp
 rw[et];have b1:Below w.heap.size w (w.alloc (.cells #[.int .i64 0,.int .i64 0] 40)):=jK;have L1:=ah (show jD (w.alloc (.cells #[.int .i64 0,.int .i64 0] 40)) w.heap.size [.int .i64 0,.int .i64 0] from jD.mk_ w [.int .i64 0,.int .i64 0] 40 rfl);obtain⟨W1,hW1⟩:=eY (w.alloc (.cells #[.int .i64 0,.int .i64 0] 40));have h1:=h.below b1;rw[←hW1] at b1 L1 h1;have s1:W1.heap.size=w.heap.size+1:=by rw[hW1];simp
 obtain⟨p,hp,o1,o2,g0,g1,f0,f1,gl⟩:=h1.hand hk;obtain⟨⟨pa,pb⟩,rfl⟩: ∃q,q=p:=⟨_,rfl⟩;obtain⟨q,cap,e1,cp1,cp2⟩:=o1.isSlice;obtain⟨q2,cap2,e2,_,_⟩:=o2.isSlice;simp only at e1 e2 g0 g1 hp;subst e1 e2;obtain⟨og,off,rfl,_,ogl,t0,t1⟩:=lG.at (by simpa using o1) (j:=l.length) (o:=o) sI;obtain⟨qp,kp,evp⟩: ∃qp kp,vp= .slice qp d.P.length kp:=by
  rcases h1.de.row.2 with⟨a1,a2⟩|⟨_,cap',_,a1,_⟩
  ·exact⟨none,0,by rw[a1,a2]⟩
  ·exact⟨_,cap',a1⟩
 have c0:=h1.de.d.gC 0;have c1:=h1.de.d.gC 1;have c2:=h1.de.d.gC 2;have cl:=h1.de.d.lt;rw[evp] at c2;have pl:d.P.length≤65536:=by
  have hh:=(mW hI).1;have h2:=nO hI.c;omega
 have e3:(l++[o]).length=l.length+1:=sI;rw[e3] at g0 hl4 cp1;obtain⟨m,hm⟩:=eY l.length;rw[←hm] at g0 t0 t1 hl4 cp1;have HD:=ah (sQ h1 k hkl);have hw1:IntKind.i64.wrap (((m+1:Nat):Int)-1)=(m:Int):=by rw[bB _ om];omega
 have hw2:IntKind.i64.wrap ((d.P.length:Int)-1)=(d.P.length:Int)-1:=bB _ om;have d1:decide ((m+1:Nat)=0)=false:=sI;have d2:decide ((m:Int)<0)=false:=decide_eq_false om;have rg: ¬(w.heap.size=gh):=fun q=>by have:=(h.de.lim gh h.mJ).2;omega
 have gr: ¬(gh=w.heap.size):=fun q=>rg q.symm
 obtain⟨p',hp',o1',o2',_⟩:=h.hand hk;rw[hp] at hp';obtain rfl:=aI hp';have ro1:lG X w (.slice (some ⟨og,off,none⟩) m cap) l:=by
  obtain⟨q',cap',e4,e5⟩:=o1'.cut m (by rw[hm];simp);simp only at e4;injection e4 with e6 _ e7;subst e6 e7;simpa[hm] using e5
 have yJ:Hid (∀W,Keep [gh] w W→jD W gh (l6 (V.set k (.slice (some ⟨og,off,none⟩) m cap,.slice q2 r.length cap2)))→rZ B ev pd pc pz gh mn lw hi O e X F w (⟨d.c,d.H.set k (l,r),d.P⟩,0,o) (.returned (.tuple #[.agg #[.int .i64 o.1,.int .i64 o.2],.nilIface])) W):=fun W kk hg=>
  ⟨rfl,X,⟨_,_,_,_,_,h.wN k (p':=(.slice (some ⟨og,off,none⟩) m cap,.slice q2 r.length cap2)) (h':=(l,r)) hkl ro1 o2' kk hg,hF.out⟩,kk.mono (fun s q=>by simp at q;subst q;exact h.offy hF.out h.mJ),fun _ q=>.inl q,fun _ q=>q⟩
 have HLOC:=ah (h1.loc1 hp hkl (.slice (some ⟨og,off,none⟩) m cap));have HLB:=ah (fun(x:Obj)=>(h1.below (w':=W1.alloc x) jK).loc1 hp hkl (.slice (some ⟨og,off,none⟩) m cap));have HB1:=ah b1;have HS1:=ah s1;have rl:w.heap.size<W1.heap.size:=om;have LL:=L1.out;have v0:=LL.gC 0;have v1:=LL.gC 1;have vf0:=LL.f 0 sI;have vf1:=LL.f 1 sI;clear h h1 hI hk hp o1 o2 o1' o2' ro1 e3 hm ld et b1 s1 evp hp';go_enter Tryz.func23,jw;go_wp2_with fail;rw[←hW1];clear hW1;refine HD.out.mono ?_;rintro r' w1 ⟨rfl,rfl⟩;go_wp2;have M:=ah ((((L1.out.far (c:=gh) gr (k*2) (.slice (some ⟨og,off,none⟩) m cap)).kH (.int .i64 o.1) (.int .i64 o.2))).past (.cells #[.int .i64 o.1,.int .i64 o.2] 40));have x0:=M.out.gC 0;have x1:=M.out.gC 1;refine bodyPost_ret (v:=.tuple #[.agg #[.int .i64 o.1,.int .i64 o.2],.nilIface]) (by simp[x0,x1,results,j4,go_sem]) rfl (yJ.out _ ?_ ?_)
 ·exact(((((Keep.of HB1.out).setCell (p:=⟨gh,k*2,none⟩) (.inl sI) _).setCell (p:=⟨w.heap.size,0,none⟩) (.inr (aH _)) _).setCell (p:=⟨w.heap.size,1,none⟩) (.inr (aH _)) _).alloc _)
 ·exact((HLOC.out.far rg 0 _).far rg 1 _).past _
theorem dtake_B (k:Nat) (n:Int) (u:Bool) (h:CD B w X pd pc pz gh mn lw hi O e v A V vp U d) (hF:Hid (∀f∈F,f∈X∧f∉xd pc v A d.c.L pd gh vp)) (hI:oH e d) {l:List Ob} {o:Ob} (hk:d.H[k]?=some ([],l++[o])):
 Calls Tryz.prog 23 #[.pointer (some ⟨pd,0,none⟩),.int .i64 k,.int .i64 n,.bool u] w (rZ B ev pd pc pz gh mn lw hi O e X F w (takeD mn O e d k n u)):=by
 have hkl:=(au.1 hk).1;have hl4:=(hI.h4 _ (aF hk)).2;have ld:lZ ([],l++[o]) d.P=((l++[o],[]),d.P):=by unfold lZ;rw[if_pos rfl,if_neg sI]
 have et:takeD mn O e d k n u=(⟨d.c,d.H.set k (l,[]),d.P⟩,0,o):=by
  rw[mD (nS hk) (o:=o) (by rw[ld];simp),ld];simp
 rw[et];have b1:Below w.heap.size w (w.alloc (.cells #[.int .i64 0,.int .i64 0] 40)):=jK;have L1:=ah (show jD (w.alloc (.cells #[.int .i64 0,.int .i64 0] 40)) w.heap.size [.int .i64 0,.int .i64 0] from jD.mk_ w [.int .i64 0,.int .i64 0] 40 rfl);obtain⟨W1,hW1⟩:=eY (w.alloc (.cells #[.int .i64 0,.int .i64 0] 40));have h1:=h.below b1;rw[←hW1] at b1 L1 h1;have s1:W1.heap.size=w.heap.size+1:=by rw[hW1];simp
 obtain⟨p,hp,o1,o2,g0,g1,f0,f1,gl⟩:=h1.hand hk;obtain⟨⟨pa,pb⟩,rfl⟩: ∃q,q=p:=⟨_,rfl⟩;obtain⟨q2,cap2,e2,_,_⟩:=o1.isSlice;obtain⟨q,cap,e1,cp1,cp2⟩:=o2.isSlice;simp only at e1 e2 g0 g1 hp;subst e1 e2;obtain⟨og,off,rfl,ogx,ogl,t0,t1⟩:=lG.at (by simpa using o2) (j:=l.length) (o:=o) sI;obtain⟨qp,kp,evp⟩: ∃qp kp,vp= .slice qp d.P.length kp:=by
  rcases h1.de.row.2 with⟨a1,a2⟩|⟨_,cap',_,a1,_⟩
  ·exact⟨none,0,by rw[a1,a2]⟩
  ·exact⟨_,cap',a1⟩
 have c0:=h1.de.d.gC 0;have c1:=h1.de.d.gC 1;have c2:=h1.de.d.gC 2;have cl:=h1.de.d.lt;rw[evp] at c2;have pl:d.P.length≤65536:=by
  have hh:=(mW hI).1;have h2:=nO hI.c;omega
 have e3:(l++[o]).length=l.length+1:=sI;rw[e3] at g1 hl4 cp1;rw[show([]:List Ob).length=0 from rfl] at g0;obtain⟨m,hm⟩:=eY l.length;rw[←hm] at g1 t0 t1 hl4 cp1;have HD:=ah (sQ h1 k hkl);have hw1:IntKind.i64.wrap (((m+1:Nat):Int)-1)=(m:Int):=by rw[bB _ om];omega
 have hw2:IntKind.i64.wrap ((d.P.length:Int)-1)=(d.P.length:Int)-1:=bB _ om;have d1:decide ((m+1:Nat)=0)=false:=sI;have d2:decide ((m:Int)<0)=false:=decide_eq_false om;have rg: ¬(w.heap.size=gh):=fun q=>by have:=(h.de.lim gh h.mJ).2;omega
 have gr: ¬(gh=w.heap.size):=fun q=>rg q.symm
 obtain⟨p',hp',o1',o2',_⟩:=h.hand hk;rw[hp] at hp';obtain rfl:=aI hp';have ro1:lG X w (.slice (some ⟨og,off,none⟩) m cap) l:=by
  obtain⟨q',cap',e4,e5⟩:=o2'.cut m (by rw[hm];simp);simp only at e4;injection e4 with e6 _ e7;subst e6 e7;simpa[hm] using e5
 have yJ:Hid (∀W,Keep [gh] w W→jD W gh (l6 (V.set k (.slice (some ⟨og,off,none⟩) m cap,.slice q2 0 cap2)))→rZ B ev pd pc pz gh mn lw hi O e X F w (⟨d.c,d.H.set k (l,[]),d.P⟩,0,o) (.returned (.tuple #[.agg #[.int .i64 o.1,.int .i64 o.2],.nilIface])) W):=fun W kk hg=>
  ⟨rfl,X,⟨_,_,_,_,_,h.wN k (p':=(.slice (some ⟨og,off,none⟩) m cap,.slice q2 0 cap2)) (h':=(l,[])) hkl ro1 o1' kk hg,hF.out⟩,kk.mono (fun s q=>by simp at q;subst q;exact h.offy hF.out h.mJ),fun _ q=>.inl q,fun _ q=>q⟩
 have vl:V.length=d.H.length:=h1.de.hl;have HL2:Hid (jD ((W1.setCell ⟨gh,k*2,none⟩ (.slice (some ⟨og,off,none⟩) (m+1) cap)).setCell ⟨gh,k*2+1,none⟩ (.slice q2 0 cap2)).drew gh (l6 (V.set k (.slice (some ⟨og,off,none⟩) (m+1) cap,.slice q2 0 cap2)))):=by
  have a1:=BG h1.de.hs hp (.slice (some ⟨og,off,none⟩) (m+1) cap);have a2:=hloc2 a1 (yM om _) (.slice q2 0 cap2);rw[Ik] at a2;exact a2.lT
 have SW:=ah (Oh gh (k*2) q2 (some ⟨og,off,none⟩) 0 (m+1) cap2 cap _ _ rfl rfl W1 g0 g1 f0 f1 gl);have d3:decide (0<m+1)=true:=sI;have VL:Hid (k<V.length):=by show k<V.length;omega
 have GO:Hid (¬(og=gh)):=fun q=>ogx (q▸h.de.mem gh h.mJ)
 have PG:Hid (¬(pd=gh)):=fun q=>(aS.1 h.de.nd).1 (q▸aG ..)
 have HB1:=ah b1;have HS1:=ah s1;have rl:w.heap.size<W1.heap.size:=om;have LL:=L1.out;have v0:=LL.gC 0;have v1:=LL.gC 1;have vf0:=LL.f 0 sI;have vf1:=LL.f 1 sI;clear h h1 hI hk hp o1 o2 o1' o2' ro1 e3 hm ld et b1 s1 evp hp' f0 f1;go_enter Tryz.func23,jw;go_wp2_with fail;rw[←hW1];clear hW1;refine HD.out.mono ?_;rintro r' w1 ⟨rfl,rfl⟩;go_wp2_with fail;refine SW.out.mono ?_;rintro r' w2 ⟨rfl,hw2⟩;rw[←hw2] at HL2;have K2:Keep [gh] w1 w2:=by rw[hw2];exact(((Keep.refl _ _).setCell (p:=⟨gh,k*2,none⟩) (.inl sI) _).setCell (p:=⟨gh,k*2+1,none⟩) (.inl sI) _).drew
 have g0':=HL2.out.c (k*2) _ (o7 (yM VL.out _)).1;have g1':=HL2.out.c (k*2+1) _ (o7 (yM VL.out _)).2;have f0':=HL2.out.f (k*2) (by rw[kP,bZ];have:=VL.out;omega);have gl':=HL2.out.lt;have t0':=(K2.cell (o:=off+m*2) ogl (by simpa using GO.out)).trans t0;have t1':=(K2.cell (o:=off+m*2+1) ogl (by simpa using GO.out)).trans t1;have ogl':=aC ogl K2.size;have c2':=(K2.cell (o:=2) cl (by simpa using PG.out)).trans c2;have cl':=aC cl K2.size;have LL2:=L1.out.keep K2 (by simpa using rg);have v0':=LL2.gC 0;have v1':=LL2.gC 1;have vf0':=LL2.f 0 sI;have vf1':=LL2.f 1 sI;have rl':=LL2.lt;have KW2:=ah ((Keep.of (S:=[gh]) HB1.out).then K2);have HL3:=ah (BG HL2.out (yM VL.out _) (.slice (some ⟨og,off,none⟩) m cap));rw[Ik] at HL3;have HLL2:=ah LL2;clear g0 g1 t0 t1 ogl c0 c1 c2 cl LL v0 v1 vf0 vf1 rl gl hw2 K2 SW HL2 HD LL2;go_wp2;have M:=ah ((((HLL2.out.far (c:=gh) gr (k*2) (.slice (some ⟨og,off,none⟩) m cap)).kH (.int .i64 o.1) (.int .i64 o.2))).past (.cells #[.int .i64 o.1,.int .i64 o.2] 40));have x0:=M.out.gC 0;have x1:=M.out.gC 1;refine bodyPost_ret (v:=.tuple #[.agg #[.int .i64 o.1,.int .i64 o.2],.nilIface]) (by simp[x0,x1,results,j4,go_sem]) rfl (yJ.out _ ?_ ?_)
 ·exact(((((KW2.out).setCell (p:=⟨gh,k*2,none⟩) (.inl sI) _).setCell (p:=⟨w.heap.size,0,none⟩) (.inr (aH _)) _).setCell (p:=⟨w.heap.size,1,none⟩) (.inr (aH _)) _).alloc _)
 ·exact((HL3.out.far rg 0 _).far rg 1 _).past _
theorem dtake_C (k:Nat) (n:Int) (u:Bool) (h:CD B w X pd pc pz gh mn lw hi O e v A V vp U d) (hF:Hid (∀f∈F,f∈X∧f∉xd pc v A d.c.L pd gh vp)) (hI:oH e d) {l:List Ob} {o:Ob} {P0:List (List Ob)} (hk:d.H[k]?=some ([],[])) (hP:d.P=P0++[l++[o]]):
 Calls Tryz.prog 23 #[.pointer (some ⟨pd,0,none⟩),.int .i64 k,.int .i64 n,.bool u] w (rZ B ev pd pc pz gh mn lw hi O e X F w (takeD mn O e d k n u)):=by
 have hkl:=(au.1 hk).1;have hl4:=hI.p4 (l++[o]) (by rw[hP];simp);have ld:lZ ([],[]) d.P=((l++[o],[]),P0):=by unfold lZ;rw[if_pos rfl,if_pos rfl,hP];simp
 have et:takeD mn O e d k n u=(⟨d.c,d.H.set k (l,[]),P0⟩,0,o):=by
  rw[mD (nS hk) (o:=o) (by rw[ld];simp),ld];simp
 rw[et];have b1:Below w.heap.size w (w.alloc (.cells #[.int .i64 0,.int .i64 0] 40)):=jK;have L1:=ah (show jD (w.alloc (.cells #[.int .i64 0,.int .i64 0] 40)) w.heap.size [.int .i64 0,.int .i64 0] from jD.mk_ w [.int .i64 0,.int .i64 0] 40 rfl);obtain⟨W1,hW1⟩:=eY (w.alloc (.cells #[.int .i64 0,.int .i64 0] 40));have h1:=h.below b1;rw[←hW1] at b1 L1 h1;have s1:W1.heap.size=w.heap.size+1:=by rw[hW1];simp
 obtain⟨p,hp,o1,o2,g0,g1,f0,f1,gl⟩:=h1.hand hk;obtain⟨⟨pa,pb⟩,rfl⟩: ∃q,q=p:=⟨_,rfl⟩;obtain⟨q2,cap2,e2,_,_⟩:=o1.isSlice;obtain⟨q3,cap3,e1,_,_⟩:=o2.isSlice;simp only at e1 e2 g0 g1 hp;subst e1 e2;rw[show([]:List Ob).length=0 from rfl] at g0 g1 hp;have pN:d.P.length=P0.length+1:=by rw[hP];simp
 have hUl:=h1.de.ul;obtain⟨uu,huu⟩: ∃uu,U[P0.length]?=some uu:=⟨U[P0.length]' om,aA _⟩;have ruu:=h.de.po _ _ _ huu (show d.P[P0.length]?=some (l++[o]) by rw[hP];simp);obtain⟨q,cap,e4,cp1,cp2⟩:=ruu.isSlice;subst e4;obtain⟨og,off,rfl,ogx,ogl,t0,t1⟩:=lG.at ruu (j:=l.length) (o:=o) sI;obtain⟨gp,kp,rfl,kp1,kp2,hru⟩: ∃gp kp,vp= .slice (some ⟨gp,0,none⟩) d.P.length kp∧d.P.length≤kp∧kp≤maxLen∧W1.cell? ⟨gp,P0.length,none⟩=some (.slice (some ⟨og,off,none⟩) (l++[o]).length cap):=by
  have ho:=h1.de.row;rcases h1.de.row.2 with⟨a1,a2⟩|⟨gp,cap',cur,a1,a2,a3,a4,a5,_⟩
  ·omega
  ·subst a1
   refine⟨gp,cap',rfl,a4,a5,?_⟩;rw[ho.cellAt _ om];exact huu
 have c0:=h1.de.d.gC 0;have c1:=h1.de.d.gC 1;have c2:=h1.de.d.gC 2;have cl:=h1.de.d.lt;have cf:=h1.de.d.f 2 sI;have pl:d.P.length≤65536:=by
  have hh:=(mW hI).1;have h2:=nO hI.c;omega
 have e3:(l++[o]).length=l.length+1:=sI;rw[e3] at hru hl4 cp1;obtain⟨m,hm⟩:=eY l.length;rw[←hm] at hru t0 t1 hl4 cp1;obtain⟨N,hN⟩:=eY P0.length;rw[pN,←hN] at c2 kp1 pl;rw[←hN] at hru;have HD:=ah (sQ h1 k hkl);have hw1:IntKind.i64.wrap (((m+1:Nat):Int)-1)=(m:Int):=by rw[bB _ om];omega
 have hw2:IntKind.i64.wrap (((N+1:Nat):Int)-1)=(N:Int):=by rw[bB _ om];omega
 have d1:decide ((m+1:Nat)=0)=false:=sI;have d2:decide ((m:Int)<0)=false:=decide_eq_false om;have d4:decide ((0:Int)≤(N:Int))=true:=decide_eq_true om;have rg: ¬(w.heap.size=gh):=fun q=>by have:=(h.de.lim gh h.mJ).2;omega
 have gr: ¬(gh=w.heap.size):=fun q=>rg q.symm
 have rp: ¬(w.heap.size=pd):=fun q=>by have:=(h.de.lim pd h.uY).2;omega
 have PG: ¬(pd=gh):=fun q=>(aS.1 h.de.nd).1 (q▸aG ..)
 have GP: ¬(gh=pd):=fun q=>PG q.symm
 have gpl:gp<W1.heap.size:=(h1.de.row.lt gp rfl).2;have t0':=(b1.cell (p:=⟨og,off+m*2,none⟩) ogl).trans t0;have t1':=(b1.cell (p:=⟨og,off+m*2+1,none⟩) ogl).trans t1;have ogl':=aC ogl b1.size;have GO:Hid (¬(og=gh)):=fun q=>ogx (q▸h.de.mem gh h.mJ)
 have PO:Hid (¬(og=pd)):=fun q=>ogx (q▸h.de.mem pd h.uY)
 obtain⟨p',hp',o1',o2',_⟩:=h.hand hk;rw[hp] at hp';obtain rfl:=aI hp';have ro1:lG X w (.slice (some ⟨og,off,none⟩) m cap) l:=by
  obtain⟨q',cap',e4,e5⟩:=ruu.cut m (by rw[hm];simp);injection e4 with e6 _ e7;subst e6 e7;simpa[hm] using e5
 have vl:V.length=d.H.length:=h1.de.hl;have VL:Hid (k<V.length):=by show k<V.length;omega
 have yJ:Hid (∀W,Keep [gh,pd] w W→jD W gh (l6 (V.set k (.slice (some ⟨og,off,none⟩) m cap,.slice q3 0 cap3)))→jD W pd [.pointer (some ⟨pc,0,none⟩),.slice (some ⟨gh,0,none⟩) d.H.length d.H.length,.slice (some ⟨gp,0,none⟩) N kp]→rZ B ev pd pc pz gh mn lw hi O e X F w (⟨d.c,d.H.set k (l,[]),P0⟩,0,o) (.returned (.tuple #[.agg #[.int .i64 o.1,.int .i64 o.2],.nilIface])) W):=fun W kk hg hd=>by
  have hrow:w.ownsRow B 38 1 (.slice (some ⟨gp,0,none⟩) P0.length kp) P0.length (U.take P0.length):=by
   obtain⟨rest,y1,y2,y3,y4,y5,y6⟩:=yX h.de.row;have:=y1.own y6 (n:=P0.length) (by rw[y2];omega) (by rw[y2];exact y5);rw[y2] at this;rw[cB om] at this;exact this
  have hrow':W.ownsRow B 38 1 (.slice (some ⟨gp,0,none⟩) P0.length kp) P0.length (U.take P0.length):=jE hrow kk (fun s hs q=>by
   have hq:s=gp:=by simpa[jF,Value.ownBlock,eq_comm] using q
   have hn:=h.de.nd;simp at hs;rcases hs with r|r
   ·exact(aS.1 (aS.1 hn).2).1 (by rw[←r,hq];simp[jF,Value.ownBlock])
   ·exact(aS.1 hn).1 (ak _ (by rw[←r,hq];simp[jF,Value.ownBlock])))
  rw[hN] at hd;refine⟨rfl,X,⟨_,_,_,_,_,h.DZ k (p':=(.slice (some ⟨og,off,none⟩) m cap,.slice q3 0 cap3)) (h':=(l,[])) (U':=U.take P0.length) (P':=P0) hkl ro1 o2' kk hg hd hrow' (by rw[bC];omega) (fun i z mm hi hm'=> ?_) rfl,hF.out⟩,kk.mono (fun s q=>by
   simp at q;rcases q with rfl|rfl
   ·exact h.offy hF.out h.mJ
   ·exact h.offy hF.out h.uY),fun _ q=>.inl q,fun _ q=>q⟩
  have hil:=(au.1 hm').1;rw[eO,if_pos hil] at hi;exact h.de.po i z mm hi (by rw[hP,bG hil];exact hm')
 have HLG:=ah (BG h1.de.hs hp (.slice (some ⟨og,off,none⟩) (m+1) cap));have HLP:=ah (h1.de.d.store 2 (.slice (some ⟨gp,0,none⟩) N kp) sI);have h1dd:=ah h1.de.d;have HB1:=ah b1;have rl:w.heap.size<W1.heap.size:=om;clear h h1 hI hk hp o1 o2 o1' o2' ro1 e3 hm ld et b1 s1 hp' f1 ruu huu hP pN hN hUl t0 t1 ogl ogx vl;go_enter Tryz.func23,jw;go_wp2_with fail;rw[←hW1];clear hW1;refine HD.out.mono ?_;rintro r' w1 ⟨rfl,rfl⟩;clear HD;go_wp2_with fail;go_region
 obtain rfl:m=3:=om;obtain⟨w2,GQ⟩: ∃w2,w2=((w1.setCell ⟨gh,k*2,none⟩ (.slice (some ⟨og,off,none⟩) 4 cap)).setCell ⟨pd,2,none⟩ (.slice (some ⟨gp,0,none⟩) N kp)).drew:=⟨_,rfl⟩;rw[←GQ];have K2:Keep [gh,pd] w1 w2:=by rw[GQ];exact(((Keep.refl _ _).setCell (p:=⟨gh,k*2,none⟩) (.inl sI) _).setCell (p:=⟨pd,2,none⟩) (.inl sI) _).drew
 have LG2:jD w2 gh (l6 (V.set k (.slice (some ⟨og,off,none⟩) 4 cap,.slice q3 0 cap3))):=by rw[GQ];exact(HLG.out.far PG 2 _).lT
 have LP2:jD w2 pd [.pointer (some ⟨pc,0,none⟩),.slice (some ⟨gh,0,none⟩) d.H.length d.H.length,.slice (some ⟨gp,0,none⟩) N kp]:=by
  rw[GQ];have q:=(h1dd.out.far GP (k*2) (.slice (some ⟨og,off,none⟩) 4 cap)).store 2 (.slice (some ⟨gp,0,none⟩) N kp) sI;exact q.lT
 have g0':=LG2.c (k*2) _ (o7 (yM VL.out _)).1;have f0':=LG2.f (k*2) (by rw[kP,bZ];have:=VL.out;omega);have gl':=LG2.lt;have t0:=(K2.cell (o:=off+3*2) ogl' (by simpa using⟨GO.out,PO.out⟩)).trans t0';have t1:=(K2.cell (o:=off+3*2+1) ogl' (by simpa using⟨GO.out,PO.out⟩)).trans t1';have ogl:=aC ogl' K2.size;have LL2:=L1.out.keep K2 (by simpa using⟨rg,rp⟩);have v0':=LL2.gC 0;have v1':=LL2.gC 1;have vf0':=LL2.f 0 sI;have vf1':=LL2.f 1 sI;have rl':=LL2.lt;have KW2:=ah ((Keep.of (S:=[gh,pd]) HB1.out).then K2);have HL3:=ah (BG LG2 (yM VL.out _) (.slice (some ⟨og,off,none⟩) 3 cap));rw[Ik] at HL3;have HP3:=ah LP2;have HLL2:=ah LL2;have HFIN':=yJ;clear g0 g1 f0 t0' t1' ogl' c0 c1 c2 cl cf rl gl GQ K2 LG2 LP2 LL2 hru kp1 gpl HLG HLP h1dd;go_wp2;have M:=ah ((((HLL2.out.far (c:=gh) gr (k*2) (.slice (some ⟨og,off,none⟩) 3 cap)).kH (.int .i64 o.1) (.int .i64 o.2))).past (.cells #[.int .i64 o.1,.int .i64 o.2] 40));have x0:=M.out.gC 0;have x1:=M.out.gC 1;refine bodyPost_ret (v:=.tuple #[.agg #[.int .i64 o.1,.int .i64 o.2],.nilIface]) (by simp[x0,x1,results,j4,go_sem]) rfl (yJ.out _ ?_ ?_ ?_)
 ·exact(((((KW2.out).setCell (p:=⟨gh,k*2,none⟩) (.inl sI) _).setCell (p:=⟨w.heap.size,0,none⟩) (.inr (aH _)) _).setCell (p:=⟨w.heap.size,1,none⟩) (.inr (aH _)) _).alloc _)
 ·exact((HL3.out.far rg 0 _).far rg 1 _).past _
 ·exact(((HP3.out.far GP (k*2) _).far rp 0 _).far rp 1 _).past _
theorem dtake_D (k:Nat) (n:Int) (u:Bool) (hE:yL B ev w) (h:CD B w X pd pc pz gh mn lw hi O e v A V vp U d) (hF:Hid (∀f∈F,f∈X∧f∉xd pc v A d.c.L pd gh vp)) (hI:oH e d) (hk:d.H[k]?=some ([],[])) (hP:d.P=[]):
 Calls Tryz.prog 23 #[.pointer (some ⟨pd,0,none⟩),.int .i64 k,.int .i64 n,.bool u] w (rZ B ev pd pc pz gh mn lw hi O e X F w (takeD mn O e d k n u)):=by
 have hkl:=(au.1 hk).1;have ld:lZ ([],[]) d.P=(([],[]),[]):=by unfold lZ;rw[if_pos rfl,if_pos rfl,hP];simp
 have et:takeD mn O e d k n u=(⟨(takeC mn O e d.c n u).1,d.H,d.P⟩,(takeC mn O e d.c n u).2.1,(takeC mn O e d.c n u).2.2):=mV (nS hk) (by rw[ld];simp);rw[et];have b1:Below w.heap.size w (w.alloc (.cells #[.int .i64 0,.int .i64 0] 40)):=jK;have L1:=ah (show jD (w.alloc (.cells #[.int .i64 0,.int .i64 0] 40)) w.heap.size [.int .i64 0,.int .i64 0] from jD.mk_ w [.int .i64 0,.int .i64 0] 40 rfl);obtain⟨W1,hW1⟩:=eY (w.alloc (.cells #[.int .i64 0,.int .i64 0] 40));have h1:=h.below b1;rw[←hW1] at b1 L1 h1;obtain⟨p,hp,o1,o2,g0,g1,f0,f1,gl⟩:=h1.hand hk;obtain⟨⟨pa,pb⟩,rfl⟩: ∃q,q=p:=⟨_,rfl⟩;obtain⟨q2,cap2,e2,_,_⟩:=o1.isSlice;obtain⟨q3,cap3,e1,_,_⟩:=o2.isSlice;simp only at e1 e2 g0 g1 hp;subst e1 e2;rw[show([]:List Ob).length=0 from rfl] at g0 g1 hp;obtain⟨qp,kp,rfl⟩: ∃qp kp,vp= .slice qp 0 kp:=by
  have hr:=h1.de.row;rw[hP] at hr;rcases hr.2 with⟨a1,a2⟩|⟨_,cap',_,a1,_⟩
  ·exact⟨none,0,by rw[a1]⟩
  ·exact⟨_,cap',by rw[a1];rfl⟩
 have c0:=h1.de.d.gC 0;have c1:=h1.de.d.gC 1;have c2:=h1.de.d.gC 2;have cl:=h1.de.d.lt;have HD:=ah (sQ h1 k hkl);have hw1:IntKind.i64.wrap ((0:Int)-1)=(0:Int)-1:=bB _ om;have ST:=Ua n u (hE.go b1) ((h.cs.more (Y:=w.heap.size::X) (fun x hx=>ak _ hx) (fun y hy=>by
  rcases aB.1 hy with rfl|q
  ·exact .inr (aH _)
  ·exact .inl q)).below b1) hI.c
 have SM:=ah (QD mn O e d.c n u);obtain⟨⟨c',cc,x1,x2⟩,hr⟩: ∃r,r=takeC mn O e d.c n u:=⟨_,rfl⟩;rw[←hr] at ST SM ⊢;unfold wL at ST;simp only[obV] at ST ⊢;have HST:=ah ST;have NX:Hid (w.heap.size∉cay pc v A++ys d.c.L):=fun q=>by
  rcases aD.1 q with r|r
  ·have:=(h.cs.ch.lim _ r).2;omega
  ·have:=(h.cs.z.b.lim _ r).2;omega
 have yJ:Hid (∀w2 W,(∃X' v' A',CS B w2 pc pz mn lw hi O e X' v' A' c'∧Keep (cay pc v A++ys d.c.L) W1 w2∧(∀x∈w.heap.size::X,x∈X')∧(∀x∈X',x∈w.heap.size::X∨W1.heap.size≤x)∧∀y∈cay pc v' A',y∈cay pc v A∨W1.heap.size≤y)→Keep [w.heap.size] w2 W→jD W1 w.heap.size [.int .i64 0,.int .i64 0]→
  rZ B ev pd pc pz gh mn lw hi O e X F w (⟨c',d.H,d.P⟩,cc,(x1,x2)) (.returned (.tuple #[.agg #[.int .i64 x1,.int .i64 x2],jW ev cc])) W):=fun w2 W ⟨X',v',A',y1,y2,y3,y4,y5⟩ kk hloc=>by
  have zl:w.heap.size<W1.heap.size:=hloc.lt;have z2:=y2.size;have nc:w.heap.size∉cay pc v' A':=fun q=>by
   rcases y5 _ q with r|r
   ·exact NX.out (av _ r)
   ·omega
  have ny:w.heap.size∉ys c'.L:=by
   rw[SM.out.ys];exact fun q=>NX.out (aj _ q)
  have kAll:Keep (cay pc v A++ys d.c.L) w W:=((Keep.of (S:=cay pc v A++ys d.c.L) b1).then y2).trans kk (fun s q=>by simp at q;subst q;exact .inr (aH _));have csw:CS B W pc pz mn lw hi O e X' v' A' c':=y1.keep kk (fun s q=>by simp at q;subst q;exact⟨nc,.inl ⟨y3 _ (aG ..),ny⟩⟩);obtain⟨q1,q2⟩:=h.cache csw kAll (fun x hx=>y3 x (ak _ hx)) (fun x hx=>by
   rcases y4 x hx with r|r
   ·rcases aB.1 r with t|t
    ·exact .inr om
    ·exact .inl t
   ·exact .inr om) (fun y hy=>(y5 y hy).imp id (fun t=>om)) SM.out
  refine⟨rfl,_,⟨_,_,_,_,_,q1,h.cacheF (fun y hy=>(y5 y hy).imp id (fun t=>om)) SM.out hF.out (fun x hx=>av _ hx)⟩,kAll.mono (fun s q=>h.offd hF.out (aj _ q)),q2,fun x hx=>av _ hx⟩
 have HB1:=ah b1;clear h h1 hI hk hp o1 o2 ld et b1 hr hE ST hP f0 f1;go_enter Tryz.func23,jw;go_wp2_with fail;rw[←hW1];clear hW1;refine HD.out.mono ?_;rintro r' w1 ⟨rfl,rfl⟩;clear HD;go_wp2_with fail;refine HST.out.mono ?_;rintro r' w2 ⟨rfl,hex⟩;have LL2:=ah (show jD w2 w.heap.size [.int .i64 0,.int .i64 0] from by
  obtain⟨_,_,_,_,k2,_⟩:=hex;exact L1.out.keep k2 NX.out)
 have v0':=LL2.out.gC 0;have v1':=LL2.out.gC 1;have vf0':=LL2.out.f 0 sI;have vf1':=LL2.out.f 1 sI;have rl':=LL2.out.lt;have HEX:=ah hex;clear hex HST;go_wp2;have M:=ah (LL2.out.kH (.int .i64 x1) (.int .i64 x2));have y0:=M.out.gC 0;have y1:=M.out.gC 1;refine bodyPost_ret (v:=.tuple #[.agg #[.int .i64 x1,.int .i64 x2],jW ev cc]) (by simp[y0,y1,results,j4,go_sem]) rfl (yJ.out w2 _ HEX.out ?_ L1.out);exact((Keep.refl _ _).setCell (p:=⟨w.heap.size,0,none⟩) (.inl sI) _).setCell (p:=⟨w.heap.size,1,none⟩) (.inl sI) _
theorem Uk (k n:Int) (u:Bool) (hE:yL B ev w) (h:CD B w X pd pc pz gh mn lw hi O e v A V vp U d) (hF:Hid (∀f∈F,f∈X∧f∉xd pc v A d.c.L pd gh vp)) (hI:oH e d):
 Calls Tryz.prog 23 #[.pointer (some ⟨pd,0,none⟩),.int .i64 k,.int .i64 n,.bool u] w (rZ B ev pd pc pz gh mn lw hi O e X F w (takeD mn O e d k n u)):=by
 cases hh:nY d k with
 |none=>exact Uj k n u hE h hF hh
 |some g=>
  obtain⟨k0,h1,h2,h3⟩:=p8 hh;obtain⟨kn,hkn⟩:=eY k.toNat;rw[←hkn] at h1 h3;subst h3;obtain⟨g1,g2⟩:=g;rcases dA g1 with rfl|⟨l,o,rfl⟩
  ·rcases dA g2 with rfl|⟨l,o,rfl⟩
   ·rcases dA d.P with hP|⟨P0,m,hP⟩
    ·exact dtake_D kn n u hE h hF hI h1 hP
    ·have hm:=hI.p4 m (by rw[hP];simp)
     rcases dA m with rfl|⟨l,o,rfl⟩
     ·simp at hm
     ·exact dtake_C kn n u h hF hI h1 (by simpa using hP)
   ·exact dtake_B kn n u h hF hI (by simpa using h1)
  ·exact dtake_A kn n u h hF hI (by simpa using h1)
end
end Go.Proofs.YtehhldljdakgeaaGreatDoor
