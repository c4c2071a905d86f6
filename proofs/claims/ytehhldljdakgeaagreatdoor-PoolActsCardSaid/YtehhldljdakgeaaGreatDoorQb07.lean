/- Lemmas. -/
import Derived.Test.YtehhldljdakgeaaGreatDoorQb01
import Derived.Test.YtehhldljdakgeaaGreatDoorQb06
set_option linter.unusedSimpArgs false
set_option linter.unusedVariables false
set_option maxHeartbeats 16000000
set_option maxRecDepth 100000
namespace Go.Proofs.YtehhldljdakgeaaGreatDoor
open Go.RowKit Go.Maps Go.Proofs.Tryz
attribute [local go_sem ↓] aJ aK
section
open Go.RowKit Go.Extern.Stop Go.Stop Go.Extern
theorem JC (v:Value) (w:World):(Extern.ReflectliteType.typeOf #[.iface 336 v]).run prog w= .ok (.iface 254 (.agg #[.pointer (some ⟨11,336,none⟩)])) w:=kR
theorem BH (w:World):((Extern.ReflectliteType.method fun t=>do Rtype.noPackHeld "Comparable" t;(fun a=>Value.bool a.comparable)<$>typeInfo t) #[.agg #[.pointer (some ⟨11,336,none⟩)]]).run prog w= .ok (.bool true) w:=kR
theorem uW (v:Value) (w:World):(Go.method 468 254 v "Comparable").run prog w= .ok (238,v) w:=kR
theorem wComp:(prog.info? 336).map (·.comparable)=some true:=kR
theorem wSize:(prog.info? 356).map (·.size)=some 1:=kR
theorem wNoIs (v:Value) (xT:TypeId) (w:World):(Instr.typeAssert (.iface 336 v) xT 256 true).run prog w= .ok (.tuple #[.nilIface,.bool false]) w:=run_typeAssert_lacksB Tryz.underlying256 kR kR v xT w
theorem wNoAs (v:Value) (xT:TypeId) (w:World):(Instr.typeAssert (.iface 336 v) xT 286 true).run prog w= .ok (.tuple #[.nilIface,.bool false]) w:=run_typeAssert_lacksB Tryz.underlying286 kR kR v xT w
theorem He (v:Value) (xT:TypeId) (w:World):(Instr.typeAssert (.iface 336 v) xT 259 true).run prog w= .ok (.tuple #[.nilIface,.bool false]) w:=run_typeAssert_lacksB Tryz.underlying259 kR kR v xT w
theorem En (v:Value) (xT:TypeId) (w:World):(Instr.typeAssert (.iface 336 v) xT 260 true).run prog w= .ok (.tuple #[.nilIface,.bool false]) w:=run_typeAssert_lacksB Tryz.underlying260 kR kR v xT w
theorem is_same (a:Addr) (w:World):
 Calls prog 59 #[.iface 336 (.pointer (some a)),.iface 336 (.pointer (some a))] w fun e w'=>e= .returned (.bool true)∧w=w':=by
 obtain⟨i,hi,hcmp⟩:=dh.1 wComp;obtain⟨j,hj,hjs⟩:=dh.1 wSize;have h8:= @run_callFunc_extern prog 107 _ Extern.ReflectliteType.typeOf Tryz.func107 kR kR kR kR;have h32:= @run_callFunc_extern prog 238 _ (Extern.ReflectliteType.method fun t=>do Rtype.noPackHeld "Comparable" t;pure (.bool (←typeInfo t).comparable)) Tryz.func238 kR kR kR kR;have tT:=JC;have cT:=BH;have mR:=uW;have heq:=run_eql_iface_ptr_same (P:=prog) w a jw Tryz.underlying336 hi hcmp hj;go_in
 go_wp2;refine wp_loop_rounds 1 ?_;rw[rounds_succ];go_wp2;go_ret;exact⟨rfl,rfl⟩
theorem is_other (a b:Addr) (ca cb:Array Value) (ta tb:TypeId) (w:World) (hne:a≠b) (ha:w.heap[a.block]?=some (.cells ca ta (0,0))) (hb:w.heap[b.block]?=some (.cells cb tb (0,0))):
 Calls prog 59 #[.iface 336 (.pointer (some a)),.iface 336 (.pointer (some b))] w fun e w'=>e= .returned (.bool false)∧w=w':=by
 obtain⟨i,hi,hcmp⟩:=dh.1 wComp;obtain⟨j,hj,hjs⟩:=dh.1 wSize;have h8:= @run_callFunc_extern prog 107 _ Extern.ReflectliteType.typeOf Tryz.func107 kR kR kR kR;have h32:= @run_callFunc_extern prog 238 _ (Extern.ReflectliteType.method fun t=>do Rtype.noPackHeld "Comparable" t;pure (.bool (←typeInfo t).comparable)) Tryz.func238 kR kR kR kR;have tT:=JC;have cT:=BH;have mR:=uW;have nE:=wNoIs;have uE:=He;have vE:=En;have heq:=run_eql_iface_ptr_other (P:=prog) w jw Tryz.underlying336 hi hcmp hj (by rw[hjs];decide) hne ha hb;go_in
 go_wp2;refine wp_loop_rounds 1 ?_;rw[rounds_succ];go_wp2;go_ret;exact⟨rfl,rfl⟩
theorem xValueOf (t:Addr) (w:World):(ReflectliteValue.unpack (.iface 196 (.pointer (some t)))).run prog w
 = .ok (.agg #[.pointer (some ⟨11,196,none⟩),.pointer (some ⟨w.heap.size,0,none⟩),.int .u64 150]) (w.alloc (.cells #[.pointer (some t)] 196)):=kR
theorem xType (a:Addr) (w:World):(ReflectliteValue.methodAny (ReflectliteValue.valueError "reflectlite.Value.Type" 0) (fun t _ _ _=>ReflectliteType.toType t) #[.agg #[.pointer (some ⟨11,196,none⟩),.pointer (some a),.int .u64 150]]).run prog w
 = .ok (.iface 254 (.agg #[.pointer (some ⟨11,196,none⟩)])) w:=kR
theorem JD (h:Value) (w:World):(Go.method 468 254 (.agg #[h]) "Kind").run prog w= .ok (224,h) w:=kR
theorem xKindPP (w:World):((ReflectliteType.abiMethod fun t=>(fun a:Nat=>Value.int IntKind.u8 (a:Int))<$>Rtype.kind t) #[.pointer (some ⟨11,196,none⟩)]).run prog w= .ok (.int .u8 22) w:=kR
theorem xKindP (w:World):((ReflectliteType.abiMethod fun t=>(fun a:Nat=>Value.int IntKind.u8 (a:Int))<$>Rtype.kind t) #[.pointer (some ⟨11,194,none⟩)]).run prog w= .ok (.int .u8 22) w:=kR
theorem xrlm (z:Sem Value) (f:TypeId→Addr→Nat→Nat→Sem Value) (v:Value):
 ReflectliteValue.method z f #[v]=(do match ←ReflectliteValue.parts v with|none=>z|some (t,a,fl)=>f t a fl (fl % 32)):=rfl
theorem xParts (a:Addr) (w:World):(ReflectliteValue.parts (.agg #[.pointer (some ⟨11,196,none⟩),.pointer (some a),.int .u64 150])).run prog w= .ok (some (196,a,150)) w:=kR
theorem xIsNil (a p:Addr) (W:World) (ha:W.cell? a=some (.pointer (some p))):
 (ReflectliteValue.method (ReflectliteValue.valueError "reflectlite.Value.IsNil" 0) ReflectliteValue.isNil #[.agg #[.pointer (some ⟨11,196,none⟩),.pointer (some a),.int .u64 150]]).run prog W= .ok (.bool false) W:=by
 rw[xrlm];simp only[fH,xParts,Result.andThen];simp[ReflectliteValue.isNil,loadVar,isAgg,underlying,Tryz.underlying196,ha,Result.andThen]
theorem JE (h:Value) (w:World):(Go.method 468 254 (.agg #[h]) "Elem").run prog w= .ok (239,.agg #[h]) w:=kR
theorem zJ (h:Value) (w:World):(Go.method 468 254 (.agg #[h]) "Implements").run prog w= .ok (240,.agg #[h]) w:=kR
theorem yg (h:Value) (w:World):(Go.method 468 254 (.agg #[h]) "AssignableTo").run prog w= .ok (237,.agg #[h]) w:=kR
theorem xElem (w:World):(ReflectliteType.method ReflectliteType.elem #[.agg #[.pointer (some ⟨11,196,none⟩)]]).run prog w= .ok (.iface 254 (.agg #[.pointer (some ⟨11,194,none⟩)])) w:=kR
theorem JF (w:World):(ReflectliteType.relation "Implements" ReflectliteType.implements_ #[.agg #[.pointer (some ⟨11,194,none⟩)],.iface 254 (.agg #[.pointer (some ⟨11,30,none⟩)])]).run prog w= .ok (.bool true) w:=kR
theorem Vg (w:World):(ReflectliteType.relation "AssignableTo" ReflectliteType.assignableTo #[.agg #[.pointer (some ⟨11,336,none⟩)],.iface 254 (.agg #[.pointer (some ⟨11,194,none⟩)])]).run prog w= .ok (.bool false) w:=kR
theorem as_miss {B:Nat} {ev:Nat→Addr} (e t:Addr) (w:World) (hE:qC B ev w):
 Calls prog 96 #[.iface 336 (.pointer (some e)),.iface 196 (.pointer (some t))] w fun ev w'=>ev= .returned (.bool false)∧Below w.heap.size w w':=by
 have hg:=hE.typ;have hB:=hE.size;have hlt:10<w.heap.size:=aC hE.globT hE.size;have h6:= @run_callFunc_extern prog 129 _ (fun args=>ReflectliteValue.unpack (args.getD 0 (.tuple #[]))) Tryz.func129 kR kR kR kR;have h7:= @run_callFunc_extern prog 130 _ (ReflectliteValue.methodAny (ReflectliteValue.valueError "reflectlite.Value.Type" 0) (fun t _ _ _=>ReflectliteType.toType t)) Tryz.func130 kR kR kR kR;have h8:= @run_callFunc_extern prog 131 _ (ReflectliteValue.method (ReflectliteValue.valueError "reflectlite.Value.IsNil" 0) ReflectliteValue.isNil) Tryz.func131 kR kR kR kR;have h27:= @run_callFunc_extern prog 224 _ (ReflectliteType.abiMethod fun t=>do pure (.int .u8 (←Rtype.kind t))) Tryz.func224 kR kR kR kR;have h37:= @run_callFunc_extern prog 239 _ (ReflectliteType.method ReflectliteType.elem) Tryz.func239 kR kR kR kR;have h38:= @run_callFunc_extern prog 240 _ (ReflectliteType.relation "Implements" ReflectliteType.implements_) Tryz.func240 kR kR kR kR;have h10:= @run_callFunc_extern prog 107 _ ReflectliteType.typeOf Tryz.func107 kR kR kR kR;have h35:= @run_callFunc_extern prog 237 _ (ReflectliteType.relation "AssignableTo" ReflectliteType.assignableTo) Tryz.func237 kR kR kR kR;have tO:=JC;have mA:=yg;have aN:=Vg;have f6:=xValueOf;have f7:=xType;have mK:=JD;have mE:=JE;have mI:=zJ;have k27:=xKindPP;have k25:=xKindP;have e27:=xElem;have i25:=JF;have nA:=wNoAs;have nU:=He;have nV:=En;have n8:=xIsNil ⟨w.heap.size,0,none⟩ t ((w.alloc (.cells #[.pointer (some t)] 196)).alloc (.cells #[.pointer (some ⟨11,196,none⟩),.pointer (some ⟨w.heap.size,0,none⟩),.int .u64 150] 246)) sI
 have hg2:((w.alloc (.cells #[.pointer (some t)] 196)).alloc (.cells #[.pointer (some ⟨11,196,none⟩),.pointer (some ⟨w.heap.size,0,none⟩),.int .u64 150] 246)).cell? ⟨10,0,none⟩=some (.iface 254 (.agg #[.pointer (some ⟨11,30,none⟩)])):=by
  rw[World.cell?_alloc_lt _ _ ⟨10,0,none⟩ (by simp;omega),World.cell?_alloc_lt _ _ ⟨10,0,none⟩ hlt];exact hg
 go_in
 go_wp2;refine wp_loop_rounds 1 ?_;rw[rounds_succ];go_wp2;go_ret;exact⟨rfl,jY⟩
end
theorem code_nil (w:World):Calls prog 52 #[.nilIface] w fun e w'=>e= .returned (.tuple #[.int .i64 0,.int .i64 (-1)])∧w=w':=by
 go_in
 go_wp2;go_ret2
 exact⟨rfl,rfl⟩
theorem wM {B:Nat} {ev:Nat→Addr} (i j:Nat) (w:World) (hE:qC B ev w) (i1:1≤i) (i2:i≤10) (j1:1≤j) (j2:j≤10):
 Calls prog 59 #[.iface 336 (.pointer (some (ev i))),.iface 336 (.pointer (some (ev j)))] w fun e w'=>e= .returned (.bool (decide (i=j)))∧w=w':=by
 by_cases h:i=j
 ·subst h
  rw[dQt rfl];exact is_same _ w
 ·rw[dQf h]
  obtain⟨ca,ta,ha⟩:=hE.row i i1 i2;obtain⟨cb,tb,hb⟩:=hE.row j j1 j2;exact is_other _ _ ca cb ta tb w (fun e=>h (hE.inj i j i1 i2 j1 j2 e)) ha hb
theorem Vh {B:Nat} {ev:Nat→Addr} (i:Nat) (w:World) (hE:qC B ev w) (i1:1≤i) (i2:i≤10):
 Calls prog 52 #[.iface 336 (.pointer (some (ev i)))] w fun e w'=>e= .returned (.tuple #[.int .i64 i,.int .i64 (-1)])∧Below w.heap.size w w':=by
 have hB:=hE.size;go_in
 go_wp2_with fail;refine(as_miss _ _ _ (hE.below jY)).mono ?_;rintro e w1 ⟨rfl,hb1⟩;obtain⟨c1,f1⟩:=zy hb1;have z1:=hb1.size;try simp at z1 c1 f1
 have hE1:qC B ev w1:=hE.below jY;have g1:=hE1.cell 1 (by decide) (by decide);have g2:=hE1.cell 2 (by decide) (by decide);have g3:=hE1.cell 3 (by decide) (by decide);have g4:=hE1.cell 4 (by decide) (by decide);have g5:=hE1.cell 5 (by decide) (by decide);have g6:=hE1.cell 6 (by decide) (by decide);have g7:=hE1.cell 7 (by decide) (by decide);have g8:=hE1.cell 8 (by decide) (by decide);have g9:=hE1.cell 9 (by decide) (by decide);have g10:=hE1.cell 10 (by decide) (by decide);simp only[errG,kM] at g1 g2 g3 g4 g5 g6 g7 g8 g9 g10;clear c1 f1;have cells: ∀k,k<10→(w1.alloc (.cells #[.iface 336 (.pointer (some (ev 1))),.iface 336 (.pointer (some (ev 2))),.iface 336 (.pointer (some (ev 3))),.iface 336 (.pointer (some (ev 4))),.iface 336 (.pointer (some (ev 5))),.iface 336 (.pointer (some (ev 6))),.iface 336 (.pointer (some (ev 7))),.iface 336 (.pointer (some (ev 8))),.iface 336 (.pointer (some (ev 9))),.iface 336 (.pointer (some (ev 10)))] 30)).cell? ⟨w1.heap.size,k,none⟩=some (.iface 336 (.pointer (some (ev (k+1))))):=by
  intro k hk;rw[bE _ _ _ _ rfl];match k,hk with
  |0,_=>rfl
  |1,_=>rfl
  |2,_=>rfl
  |3,_=>rfl
  |4,_=>rfl
  |5,_=>rfl
  |6,_=>rfl
  |7,_=>rfl
  |8,_=>rfl
  |9,_=>rfl
 have CC:=ah cells;clear cells;go_wp2;go_loop [3,28] (fun a s=>∃k:Nat,k<i∧s= .int .i64 k∧a= .int .i64 (-1)) (fun _ s=>i-(intOf s).toNat)
 case atStart=>exact⟨0,om,rfl,rfl⟩
 case round=>
  obtain⟨k,hk,rfl,rfl⟩:=hrel;have hck:=CC.out k om;have hki:(k:Int)<10:=om;by_cases hlt:k+1<i
  ·have hd:decide (i=k+1)=false:=dQf om
   have isK:=wM i (k+1) (w1.alloc (.cells #[.iface 336 (.pointer (some (ev 1))),.iface 336 (.pointer (some (ev 2))),.iface 336 (.pointer (some (ev 3))),.iface 336 (.pointer (some (ev 4))),.iface 336 (.pointer (some (ev 5))),.iface 336 (.pointer (some (ev 6))),.iface 336 (.pointer (some (ev 7))),.iface 336 (.pointer (some (ev 8))),.iface 336 (.pointer (some (ev 9))),.iface 336 (.pointer (some (ev 10)))] 30)) (hE1.below jY) i1 i2 om om;rw[hd] at isK;have IK:=ah isK;clear isK hd;go_wp2_with (go_at_call 59;refine IK.out.mono ?_;rintro e w' ⟨rfl,rfl⟩);go_round
   case rel=>exact⟨k+1,om,by go_num,rfl⟩
   case measure=>simp[intOf];omega
  ·have hd:decide (i=k+1)=true:=dQt om
   have isK:=wM i (k+1) (w1.alloc (.cells #[.iface 336 (.pointer (some (ev 1))),.iface 336 (.pointer (some (ev 2))),.iface 336 (.pointer (some (ev 3))),.iface 336 (.pointer (some (ev 4))),.iface 336 (.pointer (some (ev 5))),.iface 336 (.pointer (some (ev 6))),.iface 336 (.pointer (some (ev 7))),.iface 336 (.pointer (some (ev 8))),.iface 336 (.pointer (some (ev 9))),.iface 336 (.pointer (some (ev 10)))] 30)) (hE1.below jY) i1 i2 om om;rw[hd] at isK;have IK:=ah isK;clear isK hd;go_wp2_with (go_at_call 59;refine IK.out.mono ?_;rintro e w' ⟨rfl,rfl⟩);go_ret2
   have e1:i=k+1:=om;exact⟨by rw[show(i:Int)=(k:Int)+1 from om];rfl,jY⟩
theorem code_any {B:Nat} {ev:Nat→Addr} (i:Nat) (w:World) (hE:qC B ev w) (i2:i≤10):
 Calls prog 52 #[kM ev i] w fun e w'=>e= .returned (.tuple #[.int .i64 i,.int .i64 (-1)])∧Below w.heap.size w w':=by
 rcases i with _|i
 ·exact(code_nil w).mono fun e w' ⟨h1,h2⟩=>⟨h1,by rw[←h2];exact aL _ _⟩
 ·exact Vh (i+1) w hE om i2
theorem qC.go {B:Nat} {ev:Nat→Addr} {w w':World} (h:qC B ev w) (hb:Below w.heap.size w w'):qC B ev w':=h.below (hb.mono h.size)
def plV (p:Pl):Value:=.agg #[.int .i64 p.1,.int .i64 p.2.1,.int .i64 p.2.2]
structure Ah (B:Nat) (ev:Nat→Addr) (w:World):Prop where
 d:UA B ev w
 l7:3<B
 c7:w.cell? ⟨3,0,none⟩=some (kM ev 7)
theorem Ah.below {B:Nat} {ev:Nat→Addr} {w w':World} (h:Ah B ev w) (hb:Below B w w'):Ah B ev w':=
 ⟨h.d.below hb,h.l7,(hb.cell (p:=⟨3,0,none⟩) h.l7).trans h.c7⟩
theorem Ah.size {B:Nat} {ev:Nat→Addr} {w:World} (h:Ah B ev w):B≤w.heap.size:=h.d.size
theorem Ah.go {B:Nat} {ev:Nat→Addr} {w w':World} (h:Ah B ev w) (hb:Below w.heap.size w w'):Ah B ev w':=h.below (hb.mono h.size)
theorem Ah.c {B:Nat} {ev:Nat→Addr} {w:World} (h:Ah B ev w):Ap B ev w:=h.d.c
theorem SG {B:Nat} {ev:Nat→Addr} (pz:Nat) (mn lw hi:Int) (O:List (List Int)) (L:List Nd) (v k:Int) (u:Bool) (w:World) (hE:Ah B ev w) (h:pR B w pz mn lw hi O L) (hL:0<L.length) (hv:v<0∨(L.length:Int)≤v):
 Calls prog 135 #[.pointer (some ⟨pz,0,none⟩),.int .i64 v,.int .i64 k,.bool u] w fun e w'=>e= .returned (.tuple #[plV (0,0,0),kM ev 2])∧Below w.heap.size w w':=by
 have hB:=hE.size;have hb0:Below w.heap.size w ((w.alloc (.cells #[.int .i64 k] 3)).alloc (.cells #[.int .i64 0,.int .i64 0,.int .i64 0] 215)):=jY;have NO:=ah (Q8 pz mn lw hi O L v _ (hE.c.below (hb0.mono hB)) (h.below hb0) hL hv);have L1:=ah (jR.mk_ (w.alloc (.cells #[.int .i64 k] 3)) [.int .i64 0,.int .i64 0,.int .i64 0] 215 (b:=w.heap.size+1) sI);have e1:kM ev 2= .iface 336 (.pointer (some (ev 2))):=rfl;rw[e1] at NO ⊢;clear h hv hE e1 hb0;go_in
 go_wp2_with fail;refine NO.out.mono ?_;rintro e w1 ⟨rfl,hb1⟩;have M:=L1.out.go hb1;have m0:=M.gC 0;have m1:=M.gC 1;have m2:=M.gC 2;have f0:=M.f 0 sI;have f1:=M.f 1 sI;have f2:=M.f 2 sI;have ml:=M.lt;have HM:=ah (M.xM (.int .i64 0) (.int .i64 0) (.int .i64 0));clear M NO L1;go_wp2;have x0:=HM.out.gC 0;have x1:=HM.out.gC 1;have x2:=HM.out.gC 2;exact bodyPost_ret (v:=.tuple #[.agg #[.int .i64 0,.int .i64 0,.int .i64 0],.iface 336 (.pointer (some (ev 2)))]) (by simp[x0,x1,x2,results,iG,go_sem]) rfl ⟨rfl,jY⟩
theorem JG {B:Nat} {ev:Nat→Addr} (pz:Nat) (mn lw hi:Int) (O:List (List Int)) (L:List Nd) (v:Nat) (k:Int) (u:Bool) (w:World) (hE:Ah B ev w) (h:pR B w pz mn lw hi O L) (hv:v<L.length) (hk:k<0∨6<k):
 Calls prog 135 #[.pointer (some ⟨pz,0,none⟩),.int .i64 v,.int .i64 k,.bool u] w fun e w'=>e= .returned (.tuple #[plV (0,0,0),kM ev 2])∧Below w.heap.size w w':=by
 have hB:=hE.size;have hb0:Below w.heap.size w ((w.alloc (.cells #[.int .i64 k] 3)).alloc (.cells #[.int .i64 0,.int .i64 0,.int .i64 0] 215)):=jY;have NO:=ah (JB pz mn lw hi O L v _ (h.below hb0) hv);have L0:=ah ((jR.mk_ w [.int .i64 k] 3 rfl).past (.cells #[.int .i64 0,.int .i64 0,.int .i64 0] 215));have L1:=ah (jR.mk_ (w.alloc (.cells #[.int .i64 k] 3)) [.int .i64 0,.int .i64 0,.int .i64 0] 215 (b:=w.heap.size+1) sI);have e1:kM ev 2= .iface 336 (.pointer (some (ev 2))):=rfl;have SZ:Hid (∀W,Below w.heap.size w W→Calls prog 160 #[.int .i64 k] W fun e w'=>e= .returned (.tuple #[.int .i64 0,kM ev 2])∧Below W.heap.size W w'):=fun W hb=>size_no k W (hE.c.below (hb.mono hB)) hk
 rw[e1] at SZ ⊢;clear h hv hE e1 hb0;go_in
 go_wp2_with fail;refine NO.out.mono ?_;rintro e w1 ⟨rfl,hb1⟩;have P:=L0.out.go hb1;have p0:=P.gC 0;have pl:=P.lt;have M:=ah (L1.out.go hb1);clear P NO L0 L1;go_wp2_with fail;refine(SZ.out _ jY).mono ?_;rintro e w2 ⟨rfl,hb2⟩;have M2:=M.out.go hb2;have m0:=M2.gC 0;have m1:=M2.gC 1;have m2:=M2.gC 2;have f0:=M2.f 0 sI;have f1:=M2.f 1 sI;have f2:=M2.f 2 sI;have ml:=M2.lt;have HM:=ah (M2.xM (.int .i64 0) (.int .i64 0) (.int .i64 0));clear M2 SZ M p0;have z1:=hb1.size;simp at z1;go_wp2;have x0:=HM.out.gC 0;have x1:=HM.out.gC 1;have x2:=HM.out.gC 2;exact bodyPost_ret (v:=.tuple #[.agg #[.int .i64 0,.int .i64 0,.int .i64 0],.iface 336 (.pointer (some (ev 2)))]) (by simp[x0,x1,x2,results,iG,go_sem]) rfl ⟨rfl,jY⟩
theorem pR.row {B:Nat} {w:World} {pz:Nat} {mn lw hi:Int} {O:List (List Int)} {L:List Nd} (h:pR B w pz mn lw hi O L) {v:Nat} {D:List Int} (hD:O[v]?=some D) (hD0:0<D.length):
 ∃g off kn gO oO ko gD oD kD,jR w pz [.slice none 0 0,.slice none 0 0,.int .i64 mn,.int .i64 lw,.int .i64 hi,.slice (some ⟨g,off,none⟩) L.length kn,.slice (some ⟨gO,oO,none⟩) L.length ko]∧(g∉ys L∧g<w.heap.size)∧(gO∉ys L∧gO<w.heap.size)∧(gD∉ys L∧gD<w.heap.size)∧(L.length≤kn∧kn≤maxLen)∧(L.length≤ko∧ko≤maxLen)∧(D.length≤kD∧kD≤maxLen)∧
  (∀j y,L[j]?=some y→w.cell? ⟨g,off+j,none⟩=some (.pointer (some ⟨y.pb,0,none⟩)))∧w.cell? ⟨gO,oO+v,none⟩=some (.slice (some ⟨gD,oD,none⟩) D.length kD)∧∀t z,D[t]?=some z→w.cell? ⟨gD,oD+t,none⟩=some (.int .i64 z):=by
 have hl:v<L.length:=by rw[←h.ord.1];exact(au.1 hD).1
 obtain⟨g,off,kn,qo,ko,hz,hg,hgl,hk1,hk2,hc,hr⟩:=h.open om;obtain⟨p,cap,e,hc1,hc2,hn⟩:=hr.form;rw[h.ord.1] at e hc1;injection e with e1 e2 e3;subst e1 e3;obtain⟨gO,oO,u,rfl,hgO,hgOl,hcu,hu⟩:=hn v D hD;obtain⟨pD,kD,rfl,hkD,hmD,hcD⟩:=hu.int;obtain⟨x,hx⟩: ∃x,D[0]?=some x:=⟨D[0],aA hD0⟩;obtain⟨gD,oD,rfl,hgD,hgDl,_⟩:=hcD 0 x hx;refine⟨g,off,kn,gO,oO,ko,gD,oD,kD,hz,⟨hg,hgl⟩,⟨hgO,hgOl⟩,⟨hgD,hgDl⟩,⟨hk1,hk2⟩,⟨hc1,hc2⟩,⟨hkD,hmD⟩,hc,hcu,fun t z ht=> ?_⟩;obtain⟨g',o',e,_,_,q⟩:=hcD t z ht;injection e with e;injection e with ea eb;subst ea eb;exact q
theorem wN {α:Type} {D:List α} {t:Nat} {z:α} {P:α→Prop} (h: ∀y∈D.take t,P y) (hz:D[t]?=some z) (hp:P z): ∀y∈D.take (t+1),P y:=by
 rw[bR,hz];intro y hy;simp at hy;rcases hy with hy|rfl
 ·exact h y hy
 ·exact hp
def FC (B:Nat) (ev:Nat→Addr) (pz:Nat) (mn lw hi:Int) (O:List (List Int)) (L:List Nd) (w:World) (r:List Nd×Nat×Pl) (e:Ending) (w':World):Prop:=
 e= .returned (.tuple #[plV r.2.2,kM ev r.2.1])∧pR B w' pz mn lw hi O r.1∧Keep (ys L) w w'
theorem zhit {B:Nat} {ev:Nat→Addr} {pz:Nat} {mn lw hi:Int} {O:List (List Int)} {L:List Nd} {r:List Nd×Nat×Pl} {w w3 w4:World} {k:Int} {zn:Nat} {x:Nd} {b:Int×Int} (hr:r=(L.set (zn:Int).toNat (y7 k b x),0,((zn:Int),b.1,k)))
 (h:pR B w pz mn lw hi O L) (hx:L[zn]?=some x) (hI:Inv x.n (uz k b x.F) (rC b.1 k x.T)) (hb:Bud w3 x.pb x.n x.bf x.bt (uz k b x.F) (rC b.1 k x.T)) (h3:Keep [x.bf,x.bt] w w3) (h4:Keep [x.bf,x.bt] w w4) {c1 c2:Nat} (h34:Keep [c1,c2] w3 w4) (hc1:w.heap.size≤c1) (hc2:w.heap.size≤c2):
 FC B ev pz mn lw hi O L w r (.returned (.tuple #[plV ((zn:Int),b.1,k),.nilIface])) w4:=by
 have hxm:=aF hx;have b0:=h.b.bud x hxm;have e1:=b0.1.ltp;have e2:=b0.1.ltf;have e3:=b0.1.ltt;have hb4:Bud w4 x.pb x.n x.bf x.bt (uz k b x.F) (rC b.1 k x.T):=hb.keep h34 (by simp;omega) (by simp;omega) (by simp;omega);obtain⟨q1,q2⟩:=pR.keep (S:=[]) h hx hb4 hI h4;subst hr;exact⟨rfl,by rw[bS];exact q1,q2⟩
theorem SQ {B:Nat} {ev:Nat→Addr} (pz:Nat) (mn lw hi:Int) (O:List (List Int)) (L:List Nd) (v:Nat) (k:Int) (u:Bool) (w:World) (hE:Ah B ev w) (h:pR B w pz mn lw hi O L) (hv:v<L.length) (k0:0≤k) (k6:k≤6):
 Calls prog 135 #[.pointer (some ⟨pz,0,none⟩),.int .i64 v,.int .i64 k,.bool u] w (FC B ev pz mn lw hi O L w (lQ mn O L v k u)):=by
 have hB:=hE.size;obtain⟨D,hD,hDl,hDm⟩:=h.ord.get hv;have hn0:0<D.length:=om;have hnn: ¬((v:Int)<0∨(L.length:Int)≤(v:Int)∨k<0∨6<k):=om;have TNO:Hid (wK mn k u L D=none→lQ mn O L v k u=(L,Eh k L,(0,0,0))):=fun hp=>FB hnn (by simpa using hD) hp
 have TYES:Hid (∀(j:Int) (x:Nd) (b:Int×Int),wK mn k u L D=some j→L[j.toNat]?=some x→nD k x.F=some b→lQ mn O L v k u=(L.set j.toNat (y7 k b x),0,(j,b.1,k))):=fun j x b hp hx hb=>Bz hnn (by simpa using hD) hp hx hb
 have hb0:Below w.heap.size w ((w.alloc (.cells #[.int .i64 k] 3)).alloc (.cells #[.int .i64 0,.int .i64 0,.int .i64 0] 215)):=jY;have NO:=ah (JB pz mn lw hi O L v _ (h.below hb0) hv);have L0:=ah ((jR.mk_ w [.int .i64 k] 3 rfl).past (.cells #[.int .i64 0,.int .i64 0,.int .i64 0] 215));have L1:=ah (jR.mk_ (w.alloc (.cells #[.int .i64 k] 3)) [.int .i64 0,.int .i64 0,.int .i64 0] 215 (b:=w.heap.size+1) sI);have HH:=ah h;have HD:=ah hD;have HDM:=ah hDm;have HDL:=ah hDl;have HB0:=ah hb0;have hs:=xV k0 k6;obtain⟨n,hn⟩:=eY L.length;clear h hb0 hD hDm hDl hnn;go_in
 go_wp2_with fail;refine NO.out.mono ?_;rintro e w1 ⟨rfl,hb1⟩;have K1:Below w.heap.size w w1:=HB0.out.trans (hb1.mono (by simp;omega));have h1:=HH.out.below K1;obtain⟨g,off,kn,gO,oO,ko,gD,oD,kD,hz,⟨gy,gl⟩,⟨gOy,gOl⟩,⟨gDy,gDl⟩,⟨ka,kb⟩,⟨kc,kd⟩,⟨ke,kf⟩,hc,hcu,hcD⟩:=h1.row HD.out hn0;have c5:=hz.gC 5;have c6:=hz.gC 6;have cl:=hz.lt;have P:=L0.out.go hb1;have p0:=P.gC 0;have pl:=P.lt;have HP:=ah P;have HM:=ah (L1.out.go hb1);have HZ:=ah hz;have HC:=ah hc;have HCD:=ah hcD;have ml:=HM.out.lt;have H1:=ah h1;unfold maxLen at kb kd kf;clear P NO L0 L1 hz hc hcD h1 HB0;go_wp2_with (go_at_call 160;refine(Fx _ _ ⟨k0,k6⟩).mono ?_;rintro e w' ⟨rfl,rfl⟩);go_loopw [43] (fun iv wr=>∃t:Nat,t≤D.length∧iv= .int .i64 t∧Hid (∀z∈D.take t,D5 mn k u L z=false)∧Below w1.heap.size w1 wr) (fun iv _=>D.length-(intOf iv).toNat);case atStart=>exact⟨0,bq _,by go_num,(show∀z∈D.take 0,D5 mn k u L z=false from sI),aL _ _⟩
 case round=>
  obtain⟨t,ht,rfl,NOK,hbel⟩:=hrel;have zr:=hbel.size;have KR:Below w.heap.size w wr:=K1.trans (hbel.mono (by have:=K1.size;omega));by_cases hlt:t<D.length
  ·obtain⟨z,hz⟩: ∃z,D[t]?=some z:=⟨D[t],aA hlt⟩
   have hzm:=(HDM.out z).1 (aF hz);obtain⟨zn,rfl⟩: ∃zn:Nat,z=zn:=⟨z.toNat,om⟩;obtain⟨x,hx⟩: ∃x,L[zn]?=some x:=⟨L[zn]' om,aA _⟩;have r0:=(hbel.cell (p:=⟨gD,oD+t,none⟩) gDl).trans (HCD.out t _ hz);have q0:=(HP.out.go hbel).gC 0;have ql:=(HP.out.go hbel).lt;have Di:=HH.out.below KR;have MAY:=ah (may_any pz mn lw hi O L zn x k u wr Di hx k0 k6);have HX:=ah hx;have HZT:=ah hz;have gr:gD<wr.heap.size:=om;cases hmay:mayN mn k u x with
   |false=>
    rw[hmay] at MAY;have hno:D5 mn k u L (zn:Int)=false:=by unfold D5;rw[bS,hx];simp[okN,hmay]
    have NOK2:=ah (wN NOK.out hz hno);clear hz hx Di hno hmay;go_wp2_with fail;refine MAY.out.mono ?_;rintro e w2 ⟨rfl,hb2⟩;go_wp2;go_roundw;case rel=>exact⟨t+1,om,by go_num,NOK2,hbel.trans (hb2.mono zr)⟩
    case measure=>simp[intOf];omega
   |true=>
    rw[hmay] at MAY;have hI:=(Di.b.bud x (aF hx)).2;have hxm:=aF hx;have hbfl:=Di.b.lim x.bf (vY.2 ⟨x,hxm,.inl rfl⟩);have hbtl:=Di.b.lim x.bt (vY.2 ⟨x,hxm,.inr rfl⟩);have hbf0:=HH.out.b.lim x.bf (vY.2 ⟨x,hxm,.inl rfl⟩);have hbt0:=HH.out.b.lim x.bt (vY.2 ⟨x,hxm,.inr rfl⟩);have cz:Hid (∀W,Keep [x.bf,x.bt] wr W→W.cell? ⟨pz,5,none⟩=some (.slice (some ⟨g,off,none⟩) L.length kn)):=fun W q=>(((HZ.out.go hbel).keep q (by have:=H1.out.out;intro e;apply this;simp at e;exact vY.2 ⟨x,hxm,e⟩)).gC 5)
    have cr:Hid (∀W,Keep [x.bf,x.bt] wr W→W.cell? ⟨g,off+zn,none⟩=some (.pointer (some ⟨x.pb,0,none⟩))):=fun W q=>(q.cell om (by intro e;apply gy;simp at e;exact vY.2 ⟨x,hxm,e⟩)).trans ((hbel.cell (p:=⟨g,off+zn,none⟩) gl).trans (HC.out zn x hx))
    have cp:Hid (∀W,Keep [x.bf,x.bt] wr W→W.cell? ⟨w.heap.size,0,none⟩=some (.int .i64 k)):=fun W q=>((HP.out.go hbel).keep q (by simp;omega)).gC 0
    have c8:Hid (∀W,Keep [x.bf,x.bt] wr W→jR W (w.heap.size+1) [.int .i64 0,.int .i64 0,.int .i64 0]):=fun W q=>(HM.out.go hbel).keep q (by simp;omega)
    have Gt:=(Di.b.bud x hxm).1;have HBUD:=ah Gt;have z5:wr.heap.size≤wr.heap.size:=aI _;have HER:Hid (Ah B ev wr):=hE.go KR;have HI:=ah hI;clear Di hI Gt;cases hbb:nD k x.F with
    |none=>
     have TF:Hid (∀W,Keep [] wr W→Calls prog 162 #[.pointer (some ⟨x.pb,0,none⟩),.int .i64 k] W fun e w'=>e= .returned (.tuple #[.agg #[.int .i64 0,.int .i64 0],.iface 336 (.pointer (some (ev 5)))])∧Below W.heap.size W w'):=fun W q=>Ve x.pb x.n x.bf x.bt x.F x.T k W (HER.out.go q.rA).d (HBUD.out.keep q sI sI sI) k0 k6 hbb
     have hno:D5 mn k u L (zn:Int)=false:=by unfold D5;rw[bS,hx];simp[okN,hmay,hbb]
     have NOK2:=ah (wN NOK.out hz hno);clear hz hx hno hbb hmay HBUD HER;go_wp2_with fail;refine MAY.out.mono ?_;rintro e w2 ⟨rfl,hb2⟩;have k2:Keep [] wr w2:=Keep.of hb2;have a1:=cz.out w2 k2.wide;have a2:=cr.out w2 k2.wide;have a3:=cp.out w2 k2.wide;have HK2:=ah k2;have z2:=hb2.size;have ne1: ¬(w2.heap.size=pz):=om;have ne2: ¬(w2.heap.size=g):=om;have ne3: ¬(w2.heap.size=w.heap.size):=om;have ne1': ¬(pz=w2.heap.size):=om;have ne2': ¬(g=w2.heap.size):=om;have ne3': ¬(w.heap.size=w2.heap.size):=om;clear MAY k2 r0 q0;go_wp2_with fail;go_region_held3 (fun w'=>w'.cell? ⟨pz,5,none⟩=some (.slice (some ⟨g,off,none⟩) L.length kn)∧w'.cell? ⟨g,off+zn,none⟩=some (.pointer (some ⟨x.pb,0,none⟩))∧w'.cell? ⟨w.heap.size,0,none⟩=some (.int .i64 k)) (go_keep) (first
      |(go_at_call 162;refine(TF.out _ ?_).mono ?_;(repeat(first|exact HK2.out|refine Keep.alloc ?_ _|refine Keep.drew ?_|refine Keep.drewN ?_ _|refine Keep.setCell ?_ (.inr (by first|omega|(simp;omega)|(simp;done))) _));rintro e w3 ⟨rfl,hb3⟩;have k3':Keep [] wr w3:=(by refine Keep.stepW ?_ hb3;(repeat(first|exact HK2.out|refine Keep.alloc ?_ _|refine Keep.drew ?_|refine Keep.drewN ?_ _|refine Keep.setCell ?_ (.inr (by first|omega|(simp;omega)|(simp;done))) _)));have k3:Keep [x.bf,x.bt] wr w3:=k3'.wide;have z3:=k3'.size;have b1:=cz.out w3 k3;have b2:=cr.out w3 k3;have b3:=cp.out w3 k3;(first|(have PN:=((jR.mk_ w2 [.int .i64 0,.int .i64 0] 213 rfl).mP).go hb3;have n0:=PN.gC 0;have n1:=PN.gC 1;have nf0:=PN.f 0 sI;have nf1:=PN.f 1 sI;have nl:=PN.lt;clear PN)|skip)))
     all_goals
      go_wp2;go_roundw;case rel=>exact⟨t+1,om,by go_num,NOK2,hbel.trans ((Keep.rA (kep k3')).mono zr)⟩
      case measure=>simp[intOf];omega
    |some b=>
     have hpick:wK mn k u L D=some (zn:Int):=Jt NOK.out hz (by unfold D5;rw[bS,hx];simp[okN,hmay,hbb]);have TT:=ah (TYES.out (zn:Int) x b hpick (by rw[bS];exact hx) hbb);have TK:Hid (∀W,Keep [] wr W→Calls prog 162 #[.pointer (some ⟨x.pb,0,none⟩),.int .i64 k] W fun e w'=>e= .returned (.tuple #[.agg #[.int .i64 b.1,.int .i64 k],.nilIface])∧Bud w' x.pb x.n x.bf x.bt (uz k b x.F) (rC b.1 k x.T)∧Keep [x.bf,x.bt] W w'):=fun W q=>take_ok x.pb x.n x.bf x.bt x.F x.T k b W (HER.out.go q.rA).c hbfl.1 (HBUD.out.keep q sI sI sI) HI.out k0 k6 hbb
     have HBB:=ah hbb;have HIT:=ah (HI.out.take k0 hbb);obtain⟨b1,b2⟩:=b;simp only at TK TT;clear hz hx hbb hmay HER hpick;go_wp2_with fail;refine MAY.out.mono ?_;rintro e w2 ⟨rfl,hb2⟩;have k2:Keep [] wr w2:=Keep.of hb2;have a1:=cz.out w2 k2.wide;have a2:=cr.out w2 k2.wide;have a3:=cp.out w2 k2.wide;have HK2:=ah k2;have z2:=hb2.size;have ne1: ¬(w2.heap.size=pz):=om;have ne2: ¬(w2.heap.size=g):=om;have ne3: ¬(w2.heap.size=w.heap.size):=om;have ne4: ¬(w2.heap.size=w.heap.size+1):=om;have ne1': ¬(pz=w2.heap.size):=om;have ne2': ¬(g=w2.heap.size):=om;have ne3': ¬(w.heap.size=w2.heap.size):=om;have ne4': ¬(w.heap.size+1=w2.heap.size):=om;have NB:Hid (w2.heap.size∉[x.bf,x.bt]):=by show _∉_;simp;omega
     clear MAY k2 r0 q0;go_wp2_with fail;go_region_held3 (fun w'=>w'.cell? ⟨pz,5,none⟩=some (.slice (some ⟨g,off,none⟩) L.length kn)∧w'.cell? ⟨g,off+zn,none⟩=some (.pointer (some ⟨x.pb,0,none⟩))∧w'.cell? ⟨w.heap.size,0,none⟩=some (.int .i64 k)) (go_keep) (first
      |(go_at_call 162;refine(TK.out _ ?_).mono ?_;(repeat(first|exact HK2.out|refine Keep.alloc ?_ _|refine Keep.drew ?_|refine Keep.drewN ?_ _|refine Keep.setCell ?_ (.inr (by first|omega|(simp;omega)|(simp;done))) _));rintro e w3 ⟨rfl,hbd3,hk3⟩;have k3:Keep [x.bf,x.bt] wr w3:=(by refine Keep.thenW ?_ hk3;(repeat(first|exact HK2.out|refine Keep.alloc ?_ _|refine Keep.drew ?_|refine Keep.drewN ?_ _|refine Keep.setCell ?_ (.inr (by first|omega|(simp;omega)|(simp;done))) _)));have BD3:=ah hbd3;have y1:=cz.out w3 k3;have y2:=cr.out w3 k3;have y3:=cp.out w3 k3;(first|(have PN:=((jR.mk_ w2 [.int .i64 0,.int .i64 0] 213 rfl).mP).keep hk3 NB.out;have n0:=PN.gC 0;have n1:=PN.gC 1;have nf0:=PN.f 0 sI;have nf1:=PN.f 1 sI;have nl:=PN.lt;clear PN)|skip);have M8:=c8.out w3 k3;have m0:=M8.gC 0;have m1:=M8.gC 1;have m2:=M8.gC 2;have f0:=M8.f 0 sI;have f1:=M8.f 1 sI;have f2:=M8.f 2 sI;have ml8:=M8.lt;have HM8:=ah M8;clear M8 hbd3))
     ·have k03:Keep [x.bf,x.bt] w w3:=(Keep.of KR).then k3
      have z03:=k03.size;go_wp2;have LF:=(HM8.out.xM (.int .i64 zn) (.int .i64 b1) (.int .i64 k)).past (.cells #[.int .i64 b1,.int .i64 k] 213);have e0:=LF.gC 0;have e1:=LF.gC 1;have e2:=LF.gC 2;refine bodyPost_ret (v:=.tuple #[plV (zn,b1,k),.nilIface]) (by simp[e0,e1,e2,results,iG,go_sem,plV]) rfl ?_;refine zhit (c1:=w.heap.size+1) (c2:=w2.heap.size) (TT.out) HH.out HX.out HIT.out BD3.out k03 (kep k03) ?_ om om;refine Keep.trans (S':=[w.heap.size+1,w2.heap.size]) (Keep.refl _ _) ?_ (fun s hs=>.inl hs);repeat(first|exact Keep.refl _ _|refine Keep.alloc ?_ _|refine Keep.setCell ?_ (.inl sI) _)
     ·have k03:Keep [x.bf,x.bt] w w3:=(Keep.of KR).then k3
      have z03:=k03.size;go_wp2;have LF:=((HM8.out.far ne4 0 (.int .i64 b1)).far ne4 1 (.int .i64 k)).xM (.int .i64 zn) (.int .i64 b1) (.int .i64 k);have e0:=LF.gC 0;have e1:=LF.gC 1;have e2:=LF.gC 2;refine bodyPost_ret (v:=.tuple #[plV (zn,b1,k),.nilIface]) (by simp[e0,e1,e2,results,iG,go_sem,plV]) rfl ?_;refine zhit (c1:=w.heap.size+1) (c2:=w2.heap.size) (TT.out) HH.out HX.out HIT.out BD3.out k03 (kep k03) ?_ om om;refine Keep.trans (S':=[w.heap.size+1,w2.heap.size]) (Keep.refl _ _) ?_ (fun s hs=>.inl hs);repeat(first|exact Keep.refl _ _|refine Keep.alloc ?_ _|refine Keep.setCell ?_ (.inl sI) _)
  ·have et:t=D.length:=by omega
   subst et;have hp:wK mn k u L D=none:=V6 (fun z hz=>NOK.out z (by rw[bU];exact hz));have TT:=ah (TNO.out hp);clear hp NOK;obtain⟨wo,rfl⟩: ∃wo:World,wo=wr:=⟨_,rfl⟩;have q5:=(HZ.out.go hbel).gC 5;have hmf: ∀(fn:Fn) (first cap:Array Value) (w:World),(Instr.makeFunc fn first cap).run prog w= .ok (.func fn first cap) w:=fun _ _ _ _=>rfl
   have pzl:pz<wo.heap.size:=om;go_wp2_with fail;go_loopw [75] (fun iv wr=>∃t:Nat,t≤L.length∧iv= .int .i64 t∧Hid (∀y∈L.take t,yH k y=false)∧Below wo.heap.size wo wr) (fun iv _=>L.length-(intOf iv).toNat);case atStart=>exact⟨0,bq _,by go_num,(show∀z∈L.take 0,yH k z=false from sI),aL _ _⟩
   case round=>
    obtain⟨t,ht,rfl,NOS,hbl2⟩:=hrel;have zr2:=hbl2.size;have KR2:Below w.heap.size w wr:=KR.trans (hbl2.mono KR.size);have M8:=ah ((HM.out.go hbel).go hbl2);by_cases hlt:t<L.length
    ·obtain⟨y,hy⟩: ∃y,L[t]?=some y:=⟨L[t],aA hlt⟩
     have Di:=HH.out.below KR2;have Gt:=(Di.b.bud y (aF hy)).1;have FR:=ah (free_ok y.pb y.n y.bf y.bt y.F y.T wr Gt);have r0:=(hbl2.cell (p:=⟨g,off+t,none⟩) (show g<wo.heap.size by omega)).trans ((hbel.cell (p:=⟨g,off+t,none⟩) gl).trans (HC.out t y hy));have gr:g<wr.heap.size:=om;have HY:=ah hy;have PP:=ah ((HP.out.go hbel).go hbl2);clear Di Gt hy;go_wp2_with fail;refine FR.out.mono ?_;rintro e w3 ⟨vF,rfl,hown⟩;have hb3:=hown.2;have z3:=hb3.size;have hrow:Jb 0 w3 vF y.F:=hown.Sg.mono (bq _);have CF:=ah (UR vF y.F k w.heap.size w3 hrow ((PP.out.go hb3).gC 0) (PP.out.go hb3).lt);have es:y.F.any (Bu k)=yH k y:=rfl;rw[es] at CF;have M3:=ah (M8.out.go hb3);clear FR r0 hrow es hown PP;cases hs:yH k y with
     |false=>
      rw[hs] at CF;have NOS2:=ah (wN NOS.out HY.out hs);clear hs;go_wp2_with fail;refine CF.out.mono ?_;rintro e w4 ⟨rfl,hb4⟩;go_wp2;go_roundw;case rel=>exact⟨t+1,om,by go_num,NOS2,hbl2.trans ((hb3.mono zr2).trans (hb4.mono om))⟩
      case measure=>simp[intOf];omega
     |true=>
      rw[hs] at CF;have hlow:Eh k L=7:=by unfold Eh;rw[if_pos (fA.2 ⟨y,aF HY.out,hs⟩)]
      clear hs;go_wp2_with fail;refine CF.out.mono ?_;rintro e w4 ⟨rfl,hb4⟩;have z4:=hb4.size;have K4:Below w.heap.size w w4:=KR2.trans ((hb3.mono KR2.size).trans (hb4.mono (by have:=KR2.size;omega)));have E4:=hE.go K4;have c7:=E4.c7;have l7:=hE.l7;have ne7: ¬(w.heap.size+1=3):=om;have ne7': ¬(3=w.heap.size+1):=om;have M4:=M3.out.go hb4;have m0:=M4.gC 0;have m1:=M4.gC 1;have m2:=M4.gC 2;have f0:=M4.f 0 sI;have f1:=M4.f 1 sI;have f2:=M4.f 2 sI;have ml8:=M4.lt;have LF:=ah (M4.xM (.int .i64 0) (.int .i64 0) (.int .i64 0));have HLOW:=ah hlow;clear M4 E4 hlow CF;go_wp2;go_region
      all_goals go_wp2
      all_goals
       have e0:=LF.out.gC 0;have e1:=LF.out.gC 1;have e2:=LF.out.gC 2;refine bodyPost_ret (v:=.tuple #[plV (0,0,0),kM ev 7]) (by simp[e0,e1,e2,results,iG,go_sem,plV]) rfl ?_;rw[TT.out,HLOW.out];refine⟨rfl,HH.out.below (show Below w.heap.size w _ from ?_),Keep.of ?_⟩;all_goals (exact Keep.rA (kep (Keep.of K4)))
    ·have et:t=L.length:=by omega
     subst et;have hlow:Eh k L=5:=by
      unfold Eh;rw[if_neg];intro q;obtain⟨y,hy,hs⟩:=fA.1 q;rw[NOS.out y (by rw[bU];exact hy)] at hs;cases hs
     have E4:=(hE.go KR2).d;have c7:=E4.c5;have l7:=hE.d.l5;have ne7: ¬(w.heap.size+1=4):=om;have ne7': ¬(4=w.heap.size+1):=om;have M4:=M8.out;have m0:=M4.gC 0;have m1:=M4.gC 1;have m2:=M4.gC 2;have f0:=M4.f 0 sI;have f1:=M4.f 1 sI;have f2:=M4.f 2 sI;have ml8:=M4.lt;have LF:=ah (M4.xM (.int .i64 0) (.int .i64 0) (.int .i64 0));have HLOW:=ah hlow;clear M4 E4 hlow;go_wp2;go_region
     all_goals go_wp2
     all_goals
      have e0:=LF.out.gC 0;have e1:=LF.out.gC 1;have e2:=LF.out.gC 2;refine bodyPost_ret (v:=.tuple #[plV (0,0,0),kM ev 5]) (by simp[e0,e1,e2,results,iG,go_sem,plV]) rfl ?_;rw[TT.out,HLOW.out];refine⟨rfl,HH.out.below (show Below w.heap.size w _ from ?_),Keep.of ?_⟩;all_goals (exact Keep.rA (kep (Keep.of KR2)))
theorem Hf {B:Nat} {ev:Nat→Addr} (pz:Nat) (mn lw hi:Int) (O:List (List Int)) (L:List Nd) (v k:Int) (u:Bool) (w:World) (hE:Ah B ev w) (h:pR B w pz mn lw hi O L) (hL:0<L.length):
 Calls prog 135 #[.pointer (some ⟨pz,0,none⟩),.int .i64 v,.int .i64 k,.bool u] w (FC B ev pz mn lw hi O L w (lQ mn O L v k u)):=by
 by_cases hv:v<0∨(L.length:Int)≤v
 ·refine(SG pz mn lw hi O L v k u w hE h hL hv).mono fun e w' ⟨h1,h2⟩=> ?_
  rw[Bw om];exact⟨h1,h.below h2,Keep.of h2⟩
 ·obtain⟨n,rfl⟩: ∃n:Nat,v=n:=⟨v.toNat,om⟩
  by_cases hk:k<0∨6<k
  ·refine(JG pz mn lw hi O L n k u w hE h om hk).mono fun e w' ⟨h1,h2⟩=> ?_
   rw[Bw om];exact⟨h1,h.below h2,Keep.of h2⟩
  ·exact SQ pz mn lw hi O L n k u w hE h om om om
def GivePost (B:Nat) (ev:Nat→Addr) (pz:Nat) (mn lw hi:Int) (O:List (List Int)) (L:List Nd) (w:World) (r:List Nd×Nat) (e:Ending) (w':World):Prop:=
 e= .returned (kM ev r.2)∧pR B w' pz mn lw hi O r.1∧Keep (ys L) w w'
structure xK (X:List Nat) (B:Nat) (w:World) (pz:Nat) (mn lw hi:Int) (O:List (List Int)) (L:List Nd):Prop where
 z: ∃qn kn qo ko,jR w pz [.slice none 0 0,.slice none 0 0,.int .i64 mn,.int .i64 lw,.int .i64 hi,.slice qn L.length kn,.slice qo L.length ko]∧nO X w (.slice qn L.length kn) (ptrs L)∧CZ X w (.slice qo L.length ko) O
 b:Jd B w L
 mem: ∀y∈ys L,y∈X
 out:pz∉X
 outb: ∀x∈L,x.pb∉X
 ord:rM O L.length
 m0:0≤mn∧mn≤lw∧lw≤hi∧hi≤9223372036854775807
theorem CZ.sub {X Y:List Nat} {w:World} {v:Value} {N:List (List Int)} (h:CZ Y w v N) (hX: ∀x∈X,x∈Y):CZ X w v N:=by
 obtain⟨us,h1,h2,h3⟩:=h;exact⟨us,h1,h2.sub hX,fun j u xs hu hx=>(h3 j u xs hu hx).sub hX⟩
section
variable {X Y S:List Nat} {B:Nat} {w w':World} {pz:Nat} {mn lw hi:Int} {O:List (List Int)} {L L':List Nd}
theorem xK.toB (h:xK X B w pz mn lw hi O L):pR B w pz mn lw hi O L:=by
 obtain⟨qn,kn,qo,ko,h1,h2,h3⟩:=h.z;exact⟨⟨qn,kn,qo,ko,h1,h2.sub h.mem,h3.sub h.mem⟩,h.b,fun q=>h.out (h.mem _ q),h.ord,h.m0⟩
theorem pR.toX (h:pR B w pz mn lw hi O L):xK (ys L) B w pz mn lw hi O L:=⟨h.z,h.b,fun _ q=>q,h.out,h.b.out,h.ord,h.m0⟩
theorem xK.keep (h:xK X B w pz mn lw hi O L) (k:Keep S w w') (hs: ∀s∈S,(s∈X∧s∉ys L)∨w.heap.size≤s):xK X B w' pz mn lw hi O L:=by
 obtain⟨qn,kn,qo,ko,h1,h2,h3⟩:=h.z;have hX: ∀s∈S,s∈X∨w.heap.size≤s:=fun s q=>(hs s q).imp And.left id
 refine⟨⟨qn,kn,qo,ko,h1.keep k fun q=> ?_,h2.keep k hX,h3.keep k hX⟩,h.b.keep k fun x hx=>⟨fun q=> ?_,fun q=> ?_,fun q=> ?_⟩,h.mem,h.out,h.outb,h.ord,h.m0⟩
 ·rcases hX _ q with r|r
  ·exact h.out r
  ·have:=h1.lt;omega
 ·rcases hX _ q with r|r
  ·exact h.outb x hx r
  ·have:=(h.b.bud x hx).1.ltp;omega
 ·rcases hs _ q with r|r
  ·exact r.2 (vY.2 ⟨x,hx,.inl rfl⟩)
  ·have:=(h.b.bud x hx).1.ltf;omega
 ·rcases hs _ q with r|r
  ·exact r.2 (vY.2 ⟨x,hx,.inr rfl⟩)
  ·have:=(h.b.bud x hx).1.ltt;omega
theorem xK.below (h:xK X B w pz mn lw hi O L) (k:Below w.heap.size w w'):xK X B w' pz mn lw hi O L:=h.keep (Keep.of (S:=[]) k) (fun s q=>by cases q)
theorem xK.more (h:xK X B w pz mn lw hi O L) (hX: ∀x∈X,x∈Y) (hY: ∀y∈Y,y∈X∨w.heap.size≤y):xK Y B w pz mn lw hi O L:=by
 obtain⟨qn,kn,qo,ko,h1,h2,h3⟩:=h.z;refine⟨⟨qn,kn,qo,ko,h1,h2.more hY,h3.more hY⟩,h.b,fun y hy=>hX y (h.mem y hy),fun q=> ?_,fun x hx q=> ?_,h.ord,h.m0⟩
 ·rcases hY _ q with r|r
  ·exact h.out r
  ·have:=h1.lt;omega
 ·rcases hY _ q with r|r
  ·exact h.outb x hx r
  ·have:=(h.b.bud x hx).1.ltp;omega
theorem xK.after (h:xK X B w pz mn lw hi O L) (k:Keep (ys L) w w') (hb:pR B w' pz mn lw hi O L') (hs:rY L L'):xK X B w' pz mn lw hi O L':=by
 obtain⟨qn,kn,qo,ko,h1,h2,h3⟩:=h.z;have ep:ptrs L'=ptrs L:=hs.map (fun x=>Value.pointer (some ⟨x.pb,0,none⟩)) fun x y q=>by rw[q.pb]
 have el:L'.length=L.length:=hs.1.symm;refine⟨⟨qn,kn,qo,ko,by rw[el];exact h1.keep k (fun q=>h.out (h.mem _ q)),by rw[el,ep];exact h2.keep k (fun s q=>.inl (h.mem s q)),by rw[el];exact h3.keep k (fun s q=>.inl (h.mem s q))⟩,hb.b,by rw[hs.ys];exact h.mem,h.out,fun y hy=> ?_,hb.ord,h.m0⟩;obtain⟨i,hi⟩:=dA hy;have hl:=(au.1 hi).1;obtain⟨x,hx⟩: ∃x,L[i]?=some x:=⟨L[i]' om,aA _⟩;rw[(hs.2 i x y hx hi).pb];exact h.outb x (aF hx)
end
def wideC (P:List Int) (N:List (List Int)):Bool:=decide (20<P.length)||decide (20<N.length)||N.any fun l=>decide (20<l.length)
def wideN (P:List Int) (N:List (List Int)):Int:=if wideC P N=true then 1 else 0
theorem FE {n:Int} (h1:1≤n) (h2:n≤256):uF [n] [[0]] 0 0 0=0:=by
 have e1:yG n=false:=by unfold yG;simp;omega
 unfold uF Aq sZ sqC Jq Ag GQ PX wI;simp[e1,rV,rE]
theorem ordOne {D:List Int} (h:D.length=1∧∀x:Int,x∈D↔0≤x∧x<1):D=[0]:=by
 match D,h with
 |[x],h=>
  have:=(h.2 x).1 sI;have e:x=0:=om;rw[e]
theorem ordZ_one {O:List (List Int)} (h:rM O 1):O=[[0]]:=by
 match O,h with
 |[D],h=>
  have:=h.2 D sI;have e:D=[0]:=ordOne (by simpa using this);rw[e]
def OneZ (n:Int) (w:World) (e:Ending) (w':World):Prop:=
 ∃(pz:Nat) (x:Nd),e= .returned (.tuple #[.pointer (some ⟨pz,0,none⟩),.nilIface])∧pR w.heap.size w' pz 0 0 0 [[0]] [x]∧w.heap.size≤pz∧x.n=n∧x.F=wm 0 n∧x.T=[]∧Below w.heap.size w w'
theorem qC.z {B:Nat} {ev:Nat→Addr} {w:World} (h:qC B ev w):Ah B ev w:=⟨h.d,h.glob 7 (by decide) (by decide),h.cell 7 (by decide) (by decide)⟩
theorem wP {X Y:List Nat} (v v':Value) (xs:List Int) (w:World) (h:nO X w v (ints xs)) (h':nO Y w v' (ints xs)):
 Calls prog 26 #[v,v'] w fun e w'=>e= .returned (.bool true)∧Below w.heap.size w w':=by
 obtain⟨p,cap,rfl,h1,h2,h3⟩:=h.int;obtain⟨p',cap',rfl,h1',h2',h3'⟩:=h'.int;have HA:=ah h3;have HB:=ah h3';obtain⟨n,hn⟩:=eY xs.length;have EN:=ah hn;rw[←hn] at h1 h1' ⊢;unfold maxLen at h2 h2';clear h h' h3 h3' hn;go_in
 go_wp2_with fail;go_loopw [5] (fun iv wr=>∃i:Nat,i≤n∧iv= .int .i64 i∧Below w.heap.size w wr) (fun iv _=>n-(intOf iv).toNat);case atStart=>exact⟨0,bq _,by go_num,aL _ _⟩
 case round=>
  obtain⟨i,hi,rfl,hbel⟩:=hrel;by_cases hlt:i<n
  ·obtain⟨x,hx⟩: ∃x,xs[i]?=some x:=⟨xs[i]'(by rw[←EN.out];exact hlt),aA _⟩
   obtain⟨g,off,rfl,_,hg,hc⟩:=HA.out i x hx;obtain⟨g',off',rfl,_,hg',hc'⟩:=HB.out i x hx;have r1:=(hbel.cell (p:=⟨g,off+i,none⟩) hg).trans hc;have r2:=(hbel.cell (p:=⟨g',off'+i,none⟩) hg').trans hc';have zr:=hbel.size;have l1:g<wr.heap.size:=om;have l2:g'<wr.heap.size:=om;have i0:(0:Int)≤(i:Int):=om;have i1:(i:Int)<(n:Int):=om;clear hx hc hc';go_wp2_with fail;go_quiet (fail);go_wp2;go_roundw;case rel=>exact⟨i+1,om,by go_num,below_drewN hbel _⟩
   case measure=>simp[intOf];omega
  ·go_wp2
   go_ret;exact⟨rfl,hbel⟩
