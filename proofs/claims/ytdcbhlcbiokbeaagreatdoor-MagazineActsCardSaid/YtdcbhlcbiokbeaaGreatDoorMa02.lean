/- Lemmas and contracts for the claim's last text: Lay, Plain. -/
import Derived.Test.YtdcbhlcbiokbeaaGreatDoorMa01
set_option linter.unusedSimpArgs false
set_option linter.unusedVariables false
set_option maxHeartbeats 16000000
set_option maxRecDepth 100000
namespace Go.Proofs.YtdcbhlcbiokbeaaGreatDoor
section
open Go.Shelf
def Tryz.keysA_ren:Go.Shelf.Ren:=⟨fun|7=>255|10=>276|n=>n,fun|23=>270|26=>3|3=>3|28=>306|0=>0|27=>305|33=>68|4=>4|n=>n,fun|n=>n⟩
theorem Tryz.keysA:Go.Proofs.SlLaysZI.n7 Tryz.prog Tryz.keysA_ren:={
 mixed:=kR
 f7:=⟨Tryz.f255.name,by decide,Tryz.func255.trans (congrArg some kR)⟩
 f10:=⟨Tryz.f276.name,by decide,Tryz.func276.trans (congrArg some kR)⟩
 t0:=Tryz.underlying0
 a0:=Tryz.isAgg0
 z0:=Tryz.sizeOf0
 v0:=Tryz.zeroValue0
 t4:=fM
 a4:=Tryz.isAgg4
 z4:=Tryz.sizeOf4
 v4:=Tryz.zeroValue4
 t23:=eU
 a23:=Tryz.isAgg270
 z23:=Tryz.sizeOf270
 v23:=Tryz.zeroValue270
 t26:=bg
 a26:=fD
 z26:=fA
 v26:=gU
 t27:=Tryz.underlying305
 a27:=Tryz.isAgg305
 z27:=Tryz.sizeOf305
 v27:=Tryz.zeroValue305
 t28:=Tryz.underlying306
 a28:=Tryz.isAgg306
 z28:=Tryz.sizeOf306
 v28:=Tryz.zeroValue306
 t33:=Tryz.underlying68
 a33:=Tryz.isAgg68
 z33:=Tryz.sizeOf68
 v33:=Tryz.zeroValue68}
def Tryz.sortedA_ren:Go.Shelf.Ren:=⟨fun|6=>184|8=>239|9=>240|11=>267|13=>269|12=>268|23=>289|24=>290|14=>280|15=>281|16=>282|17=>283|18=>284|19=>285|20=>286|21=>287|22=>288|25=>293|26=>294|27=>295|28=>296|29=>297|30=>247|31=>299|n=>n,fun|26=>3|28=>306|24=>22|0=>0|3=>3|37=>379|48=>422|50=>424|4=>4|40=>416|39=>415|45=>340|5=>5|9=>9|51=>426|55=>430|57=>432|58=>176|33=>68|n=>n,fun|n=>n⟩
theorem Tryz.sortedA:Go.Proofs.SlLaysZI.n6 Tryz.prog Tryz.sortedA_ren:={
 mixed:=kR
 f6:=⟨Tryz.f184.name,by decide,Tryz.func184.trans (congrArg some kR)⟩
 f8:=⟨Tryz.f239.name,by decide,Tryz.func239.trans (congrArg some kR)⟩
 f11:=⟨Tryz.f267.name,by decide,Tryz.func267.trans (congrArg some kR)⟩
 t0:=Tryz.underlying0
 a0:=Tryz.isAgg0
 z0:=Tryz.sizeOf0
 v0:=Tryz.zeroValue0
 t24:=fF
 a24:=Tryz.isAgg22
 z24:=Tryz.sizeOf22
 v24:=Tryz.zeroValue22
 t26:=bg
 a26:=fD
 z26:=fA
 v26:=gU
 t28:=Tryz.underlying306
 a28:=Tryz.isAgg306
 z28:=Tryz.sizeOf306
 v28:=Tryz.zeroValue306
 i26:=by kernel_rfl}
def Tryz.sortA_ren:Go.Shelf.Ren:=⟨fun|5=>240|8=>269|7=>268|19=>289|20=>290|10=>280|11=>281|12=>282|13=>283|14=>284|15=>285|16=>286|17=>287|18=>288|30=>293|31=>294|32=>295|33=>296|34=>297|35=>247|40=>299|n=>n,fun|23=>22|25=>3|3=>3|32=>379|22=>22|0=>0|44=>422|46=>424|4=>4|36=>416|35=>415|41=>340|5=>5|9=>9|53=>426|57=>430|63=>432|64=>176|n=>n,fun|n=>n⟩
theorem Tryz.sortA:Go.Proofs.SlLaysM.n5 Tryz.prog Tryz.sortA_ren:={
 mixed:=kR
 f5:=⟨Tryz.f240.name,by decide,Tryz.func240.trans (congrArg some kR)⟩
 f7:=⟨Tryz.f268.name,by decide,Tryz.func268.trans (congrArg some kR)⟩
 f8:=Tryz.func269.trans (congrArg some kR)
 f10:=⟨Tryz.f280.name,by decide,Tryz.func280.trans (congrArg some kR)⟩
 f11:=⟨Tryz.f281.name,by decide,Tryz.func281.trans (congrArg some kR)⟩
 f12:=⟨Tryz.f282.name,by decide,Tryz.func282.trans (congrArg some kR)⟩
 f13:=⟨Tryz.f283.name,by decide,Tryz.func283.trans (congrArg some kR)⟩
 f14:=⟨Tryz.f284.name,by decide,Tryz.func284.trans (congrArg some kR)⟩
 f15:=⟨Tryz.f285.name,by decide,Tryz.func285.trans (congrArg some kR)⟩
 f16:=⟨Tryz.f286.name,by decide,Tryz.func286.trans (congrArg some kR)⟩
 f17:=⟨Tryz.f287.name,by decide,Tryz.func287.trans (congrArg some kR)⟩
 f18:=⟨Tryz.f288.name,by decide,Tryz.func288.trans (congrArg some kR)⟩
 f19:=Tryz.func289.trans (congrArg some kR)
 f20:=Tryz.func290.trans (congrArg some kR)
 f30:=⟨Tryz.f293.name,by decide,Tryz.func293.trans (congrArg some kR)⟩
 f31:=Tryz.func294.trans (congrArg some kR)
 f32:=Tryz.func295.trans (congrArg some kR)
 f33:=⟨Tryz.f296.name,by decide,Tryz.func296.trans (congrArg some kR)⟩
 f34:=⟨Tryz.f297.name,by decide,Tryz.func297.trans (congrArg some kR)⟩
 f35:=⟨Tryz.f247.name,by decide,Tryz.func247.trans (congrArg some kR)⟩
 f40:=⟨Tryz.f299.name,by decide,Tryz.func299.trans (congrArg some kR)⟩
 t0:=Tryz.underlying0
 a0:=Tryz.isAgg0
 z0:=Tryz.sizeOf0
 v0:=Tryz.zeroValue0
 t3:=bg
 a3:=fD
 z3:=fA
 v3:=gU
 t4:=fM
 a4:=Tryz.isAgg4
 z4:=Tryz.sizeOf4
 v4:=Tryz.zeroValue4
 t5:=Tryz.underlying5
 a5:=Tryz.isAgg5
 z5:=Tryz.sizeOf5
 v5:=Tryz.zeroValue5
 t9:=Tryz.underlying9
 a9:=Tryz.isAgg9
 z9:=Tryz.sizeOf9
 v9:=Tryz.zeroValue9
 t22:=fF
 a22:=Tryz.isAgg22
 z22:=Tryz.sizeOf22
 v22:=Tryz.zeroValue22
 t23:=fF
 a23:=Tryz.isAgg22
 z23:=Tryz.sizeOf22
 v23:=Tryz.zeroValue22
 t25:=bg
 a25:=fD
 z25:=fA
 v25:=gU
 t32:=Tryz.underlying379
 a32:=Tryz.isAgg379
 z32:=Tryz.sizeOf379
 v32:=Tryz.zeroValue379
 t35:=Tryz.underlying415
 a35:=Tryz.isAgg415
 z35:=Tryz.sizeOf415
 v35:=Tryz.zeroValue415
 t36:=Tryz.underlying416
 a36:=Tryz.isAgg416
 z36:=Tryz.sizeOf416
 v36:=Tryz.zeroValue416
 t41:=Tryz.underlying340
 a41:=Tryz.isAgg340
 z41:=Tryz.sizeOf340
 v41:=Tryz.zeroValue340
 t44:=Tryz.underlying422
 a44:=Tryz.isAgg422
 z44:=Tryz.sizeOf422
 v44:=Tryz.zeroValue422
 t46:=Tryz.underlying424
 a46:=Tryz.isAgg424
 z46:=Tryz.sizeOf424
 v46:=Tryz.zeroValue424
 t53:=Tryz.underlying426
 a53:=Tryz.isAgg426
 z53:=Tryz.sizeOf426
 v53:=Tryz.zeroValue426
 t57:=Tryz.underlying430
 a57:=Tryz.isAgg430
 z57:=Tryz.sizeOf430
 v57:=Tryz.zeroValue430
 t63:=Tryz.underlying432
 a63:=Tryz.isAgg432
 z63:=Tryz.sizeOf432
 v63:=Tryz.zeroValue432
 t64:=Tryz.underlying176
 a64:=Tryz.isAgg176
 z64:=Tryz.sizeOf176
 v64:=Tryz.zeroValue176}
def Tryz.cloneA_ren:Go.Shelf.Ren:=⟨fun|5=>262|7=>277|n=>n,fun|23=>270|25=>3|3=>3|4=>4|20=>20|n=>n,fun|n=>n⟩
theorem Tryz.cloneA:Go.Proofs.SlLaysW.n5 Tryz.prog Tryz.cloneA_ren:={
 mixed:=kR
 f5:=⟨Tryz.f262.name,by decide,Tryz.func262.trans (congrArg some kR)⟩
 f7:=Tryz.func277.trans (congrArg some kR)
 t4:=fM
 a4:=Tryz.isAgg4
 z4:=Tryz.sizeOf4
 v4:=Tryz.zeroValue4
 t20:=Tryz.underlying20
 a20:=Tryz.isAgg20
 z20:=Tryz.sizeOf20
 v20:=Tryz.zeroValue20
 t23:=eU
 a23:=Tryz.isAgg270
 z23:=Tryz.sizeOf270
 v23:=Tryz.zeroValue270}
end
section
open Go.RowKit
def sz (k:Int):Int:=2 ^ k.toNat
theorem uj {k:Int} (h0:0≤k) (h6:k≤6):k=0∨k=1∨k=2∨k=3∨k=4∨k=5∨k=6:=om
theorem Cq {k:Int} (h0:0≤k) (h6:k≤7):k=0∨k=1∨k=2∨k=3∨k=4∨k=5∨k=6∨k=7:=om
theorem sz0:sz 0=1:=rfl
theorem sz1:sz 1=2:=rfl
theorem sz2:sz 2=4:=rfl
theorem sz3:sz 3=8:=rfl
theorem sz4:sz 4=16:=rfl
theorem sz5:sz 5=32:=rfl
theorem sz6:sz 6=64:=rfl
theorem qx {k:Int} (h0:0≤k) (h6:k≤6):1≤sz k∧sz k≤64:=by
 rcases uj h0 h6 with rfl|rfl|rfl|rfl|rfl|rfl|rfl<;>decide
theorem DZ {k:Int} (h0:0≤k) (h6:k≤7):1≤sz k∧sz k≤128:=by
 rcases Cq h0 h6 with rfl|rfl|rfl|rfl|rfl|rfl|rfl|rfl<;>decide
theorem qy {k:Int} (h0:0≤k) (h6:k≤6):sz (k+1)=2*sz k:=by
 rcases uj h0 h6 with rfl|rfl|rfl|rfl|rfl|rfl|rfl<;>decide
theorem qA {k:Int} (h0:0≤k) (h6:k≤6):wrap64 (2 ^ k.toNat)=sz k:=by
 unfold wrap64
 rcases uj h0 h6 with rfl|rfl|rfl|rfl|rfl|rfl|rfl<;>decide
theorem Cr: ∀a:Fin 512,∀k:Fin 7,
 bits .and .i64 ((a.val:Nat):Int) (((2 ^ k.val:Nat):Int)-1)=(((a.val % 2 ^ k.val:Nat)):Int)
 ∧bits .xor .i64 ((a.val:Nat):Int) ((2 ^ k.val:Nat):Int)=(if a.val % (2*2 ^ k.val)<2 ^ k.val then((a.val:Nat):Int)+((2 ^ k.val:Nat):Int) else((a.val:Nat):Int)-((2 ^ k.val:Nat):Int))
 ∧bits .andNot .i64 ((a.val:Nat):Int) ((2 ^ k.val:Nat):Int)=(if a.val % (2*2 ^ k.val)<2 ^ k.val then((a.val:Nat):Int) else((a.val:Nat):Int)-((2 ^ k.val:Nat):Int)):=by
 decide+kernel
theorem bits_at {a k:Int} (h0:0≤a) (h1:a<512) (k0:0≤k) (k6:k≤6):
 bits .and .i64 a (sz k-1)=a % sz k
 ∧bits .xor .i64 a (sz k)=(if a % (2*sz k)<sz k then a+sz k else a-sz k)
 ∧bits .andNot .i64 a (sz k)=(if a % (2*sz k)<sz k then a else a-sz k):=by
 obtain⟨n,rfl⟩:=Int.eq_ofNat_of_zero_le h0
 obtain⟨m,rfl⟩:=Int.eq_ofNat_of_zero_le k0
 have t:=Cr ⟨n,om⟩ ⟨m,om⟩
 have e:sz (m:Int)=((2 ^ m:Nat):Int):=by simp[sz]
 have e2:(2:Int)*((2 ^ m:Nat):Int)=((2*2 ^ m:Nat):Int):=sI
 rw[e,e2]
 simp only[←Int.natCast_emod,Int.ofNat_lt] at t ⊢
 exact t
theorem and_sz {a k:Int} (h0:0≤a) (h1:a<512) (k0:0≤k) (k6:k≤6):bits .and .i64 a (sz k-1)=a % sz k:=(bits_at h0 h1 k0 k6).1
def kV (a k:Int):Nat:=if a<0∨256≤a∨k<0∨6<k then 2 else if a % sz k=0 then 0 else 3
def checkE (a k n:Int):Nat:=if n<1∨256<n∨k<0∨6<k∨a<0∨n-sz k<a then 2 else if a % sz k=0 then 0 else 3
def rV (a k:Int):Int:=if a % (2*sz k)<sz k then a else a-sz k
def vX (a k:Int):Int:=if a % (2*sz k)<sz k then a+sz k else a-sz k
theorem sP (a k:Int):(kV a k=2∧(a<0∨256≤a∨k<0∨6<k))∨((0≤a∧a≤255∧0≤k∧k≤6)∧((kV a k=3∧a % sz k≠0)∨(kV a k=0∧a % sz k=0))):=by
 unfold kV
 by_cases h:a<0∨256≤a∨k<0∨6<k
 ·exact .inl ⟨by rw[if_pos h],h⟩
 ·refine .inr ⟨om,?_⟩
  by_cases h2:a % sz k=0
  ·exact .inr ⟨by rw[if_neg h,if_pos h2],h2⟩
  ·exact .inl ⟨by rw[if_neg h,if_neg h2],h2⟩
def upE (a k:Int):Nat:=if kV a k=0 then(if k=6 then 4 else 0) else kV a k
def Ct (a k:Int):Nat:=if kV a k=0 then(if k=0 then 4 else 0) else kV a k
theorem zY {a k:Int} (h:kV a k=0):0≤a∧a≤255∧0≤k∧k≤6∧a % sz k=0:=by
 rcases sP a k with⟨h2,_⟩|⟨⟨a0,a1,k0,k6⟩,⟨h2,_⟩|⟨_,h2⟩⟩
 ·omega
 ·omega
 ·exact⟨a0,a1,k0,k6,h2⟩
theorem wB {a k:Int} (h:Ct a k=0):kV a k=0∧k≠0:=by
 unfold Ct at h
 by_cases h1:kV a k=0
 ·rw[if_pos h1] at h
  exact⟨h1,fun e=>by rw[if_pos e] at h;omega⟩
 ·rw[if_neg h1] at h;omega
theorem E5 {a k:Int} (a0:0≤a) (a1:a≤255) (k0:0≤k) (k6:k≤6) (h:a % sz k=0):kV a k=0:=by
 unfold kV
 rw[if_neg om,if_pos h]
theorem downE_mk {a k:Int} (h:kV a k=0) (h6:k≠0):Ct a k=0:=by unfold Ct;rw[if_pos h,if_neg h6]
theorem kin {a k:Int} (a0:0≤a) (a1:a≤255) (k0:0≤k) (k5:k≤5) (ha:a % sz k=0):
 (0≤vX a k∧vX a k≤255∧vX a k % sz k=0)∧vX (vX a k) k=a∧rV (vX a k) k=rV a k∧(0≤rV a k∧rV a k≤255∧rV a k % sz (k+1)=0)∧
 ((rV a k=a∧vX a k=rV a k+sz k)∨(rV a k=vX a k∧a=rV a k+sz k))∧rV a k=a / (2*sz k)*(2*sz k)∧(vX a k=if rV a k=a then a+sz k else rV a k):=by
 have e:k=0∨k=1∨k=2∨k=3∨k=4∨k=5:=om
 rcases e with rfl|rfl|rfl|rfl|rfl|rfl<;>simp only[vX,rV,sz0,sz1,sz2,sz3,sz4,sz5,sz6,show(0:Int)+1=1 from rfl,show(1:Int)+1=2 from rfl,show(2:Int)+1=3 from rfl,show(3:Int)+1=4 from rfl,show(4:Int)+1=5 from rfl,show(5:Int)+1=6 from rfl] at* <;>(refine⟨⟨?_,?_,?_⟩,?_,?_,⟨?_,?_,?_⟩,?_,?_,?_⟩<;>omega)
theorem kin_p {a k:Int} (a0:0≤a) (a1:a≤255) (k0:0≤k) (k5:k≤5) (ha:a % sz k=0):0≤rV a k∧rV a k≤255:=by
 obtain⟨_,_,_,⟨p0,p1,_⟩,_⟩:=kin a0 a1 k0 k5 ha
 exact⟨p0,p1⟩
theorem kin_q {a k:Int} (a0:0≤a) (a1:a≤255) (k0:0≤k) (k5:k≤5) (ha:a % sz k=0):a / sz (k+1)*sz (k+1)=rV a k:=by
 obtain⟨_,_,_,_,_,hp,_⟩:=kin a0 a1 k0 k5 ha
 rw[qy k0 om];exact hp.symm
theorem kin_b {a k:Int} (a0:0≤a) (a1:a≤255) (k0:0≤k) (k5:k≤5) (ha:a % sz k=0):(rV a k=a∧vX a k=a+sz k)∨(rV a k≠a∧vX a k=rV a k):=by
 obtain⟨_,_,_,_,_,_,hb⟩:=kin a0 a1 k0 k5 ha
 by_cases h:rV a k=a
 ·rw[if_pos h] at hb;exact .inl ⟨h,hb⟩
 ·rw[if_neg h] at hb;exact .inr ⟨h,hb⟩
def ordI (n:Int):Int:=if n≤1 then 0 else if n≤2 then 1 else if n≤4 then 2 else if n≤8 then 3 else if n≤16 then 4 else if n≤32 then 5 else 6
theorem sz_le64 {k:Int} (h0:0≤k) (h6:k≤6):sz k≤64:=(qx h0 h6).2
end
section
open Go.RowKit
def q8 (a n:Int):Int:=if a % 64=0∧64≤n then 6 else if a % 32=0∧32≤n then 5 else if a % 16=0∧16≤n then 4 else if a % 8=0∧8≤n then 3 else if a % 4=0∧4≤n then 2 else if a % 2=0∧2≤n then 1 else 0
theorem oU (a n:Int):0≤q8 a n∧q8 a n≤6:=by
 unfold q8
 (repeat' split)<;>omega
theorem um {a n:Int} (h:1≤n):a % sz (q8 a n)=0∧sz (q8 a n)≤n:=by
 unfold q8
 (repeat' split)<;>simp only[sz0,sz1,sz2,sz3,sz4,sz5,sz6]<;>omega
theorem xu {a n k:Int} (k6:k≤6) (h:q8 a n<k): ¬(a % sz k=0∧sz k≤n):=by
 have h0:=(oU a n).1
 have e:k=1∨k=2∨k=3∨k=4∨k=5∨k=6:=om
 unfold q8 at h
 rcases e with rfl|rfl|rfl|rfl|rfl|rfl<;>simp only[sz1,sz2,sz3,sz4,sz5,sz6]<;>(repeat' split at h)<;>omega
theorem covO_min {a n k:Int} (k0:0≤k) (h:k≤q8 a n) (hn:1≤n):a % sz k=0∧sz k≤n:=by
 have h6:=(oU a n).2
 have e:k=0∨k=1∨k=2∨k=3∨k=4∨k=5∨k=6:=om
 unfold q8 at h
 rcases e with rfl|rfl|rfl|rfl|rfl|rfl|rfl<;>simp only[sz0,sz1,sz2,sz3,sz4,sz5,sz6]<;>(repeat' split at h)<;>omega
def covF:Nat→Int→Int→List (Int×Int)
 |0,_,_=>[]
 |f+1,a,n=>if n≤0 then[] else(a,q8 a n)::covF f (a+sz (q8 a n)) (n-sz (q8 a n))
def oL (a n:Int):List (Int×Int):=covF n.toNat a n
theorem uo: ∀(f g:Nat) (a n:Int),n.toNat≤f→n.toNat≤g→covF f a n=covF g a n
 |0,0,_,_,_,_=>rfl
 |0,g+1,a,n,hf,_=>by
  have:n≤0:=om
  simp[covF,this]
 |f+1,0,a,n,_,hg=>by
  have:n≤0:=om
  simp[covF,this]
 |f+1,g+1,a,n,hf,hg=>by
  unfold covF
  by_cases h:n≤0
  ·rw[if_pos h,if_pos h]
  ·rw[if_neg h,if_neg h]
   have hb:=oU a n
   have hs:=(qx hb.1 hb.2).1
   rw[uo f g _ _ om om]
theorem kW {a n:Int} (h:n≤0):oL a n=[]:=by
 unfold oL
 have:n.toNat=0:=om
 rw[this];rfl
theorem oV {a n:Int} (h:1≤n):oL a n=(a,q8 a n)::oL (a+sz (q8 a n)) (n-sz (q8 a n)):=by
 have hb:=oU a n
 have hs:=(qx hb.1 hb.2).1
 unfold oL
 obtain⟨f,hf⟩: ∃f,n.toNat=f+1:=⟨n.toNat-1,om⟩
 rw[hf]
 show(if n≤0 then[] else _)=_
 rw[if_neg om]
 rw[uo f (n-sz (q8 a n)).toNat _ _ om (aI _)]
theorem qB: ∀(f:Nat) (a n:Int),n.toNat≤f→((oL a n).length:Int)≤n.toNat
 |0,a,n,h=>by rw[kW om];exact Int.natCast_nonneg _
 |f+1,a,n,h=>by
  by_cases h0:n≤0
  ·rw[kW h0];exact Int.natCast_nonneg _
  ·have hb:=oU a n
   have hs:=(qx hb.1 hb.2).1
   rw[oV om]
   have:=qB f (a+sz (q8 a n)) (n-sz (q8 a n)) om
   simp only[dw]
   omega
def Chain (e:Int):Int→List (Int×Int)→Prop
 |a,[]=>a=e
 |a,b::r=>b.1=a∧0≤b.2∧b.2≤6∧a % sz b.2=0∧a+sz b.2≤e∧Chain e (a+sz b.2) r
theorem nT: ∀(f:Nat) (a n:Int),n.toNat≤f→0≤n→Chain (a+n) a (oL a n)
 |0,a,n,h,hn=>by
  have:n=0:=om
  subst this
  rw[kW om]
  simp[Chain]
 |f+1,a,n,h,hn=>by
  by_cases h0:n=0
  ·subst h0
   rw[kW om]
   simp[Chain]
  ·have hb:=oU a n
   have hs:=(qx hb.1 hb.2).1
   obtain⟨f1,f2⟩:=um (a:=a) (n:=n) om
   rw[oV om]
   have:=nT f (a+sz (q8 a n)) (n-sz (q8 a n)) om om
   refine⟨rfl,hb.1,hb.2,f1,(show a+sz (q8 a n)≤a+n by omega),?_⟩
   rwa [show a+sz (q8 a n)+(n-sz (q8 a n))=a+n from om] at this
end
section
def Asc (l:List (Int×Int)):Prop:=l.Pairwise fun p q=>p.1<q.1
def sQ (l:List (Int×Int)) (a:Int):Option Int:=(l.find? fun p=>p.1==a).map (·.2)
def mG (a:Int) (l:List (Int×Int)):List (Int×Int):=l.filter fun p=>p.1 !=a
def kM (a k:Int):List (Int×Int)→List (Int×Int)
 |[]=>[(a,k)]
 |p::r=>if a<p.1 then(a,k)::p::r else if a=p.1 then(a,k)::r else p::kM a k r
theorem Asc.del {l:List (Int×Int)} (h:Asc l) (a:Int):Asc (mG a l):=List.Pairwise.filter _ h
theorem Bf {l:List (Int×Int)} {a:Int} {p:Int×Int}:p∈mG a l↔p∈l∧p.1≠a:=by simp[mG]
theorem xw: ∀{l:List (Int×Int)} {a k:Int} {p:Int×Int},p∈kM a k l→p=(a,k)∨p∈l
 |[],a,k,p,h=>by simpa[kM] using h
 |q::r,a,k,p,h=>by
  unfold kM at h
  split at h
  ·simpa using h
  ·split at h
   ·rcases aC.1 h with h|h
    ·exact .inl h
    ·exact .inr (ak _ h)
   ·rcases aC.1 h with h|h
    ·exact .inr (by simp[h])
    ·rcases xw h with h|h
     ·exact .inl h
     ·exact .inr (ak _ h)
theorem Asc.put: ∀{l:List (Int×Int)},Asc l→∀a k,Asc (kM a k l)
 |[],_,a,k=>by simp[kM,Asc]
 |q::r,h,a,k=>by
  obtain⟨h1,h2⟩:=bG.1 h
  unfold kM
  split
  ·refine bG.2 ⟨fun p hp=> ?_,h⟩
   rcases aC.1 hp with rfl|hp
   ·assumption
   ·have:=h1 p hp;show a<p.1;omega
  ·split
   ·rename_i e
    exact bG.2 ⟨fun p hp=>by have:=h1 p hp;show a<p.1;omega,h2⟩
   ·refine bG.2 ⟨fun p hp=> ?_,Asc.put h2 a k⟩
    rcases xw hp with rfl|hp
    ·show q.1<a;omega
    ·exact h1 p hp
theorem jZ (p:Int×Int) (l:List (Int×Int)) (a:Int):sQ (p::l) a=if p.1=a then some p.2 else sQ l a:=by
 unfold sQ
 by_cases h:p.1=a<;>simp[h]
theorem qO: ∀{l:List (Int×Int)} {a k:Int},sQ l a=some k→(a,k)∈l
 |[],a,k,h=>by simp[sQ] at h
 |p::r,a,k,h=>by
  rw[jZ] at h
  split at h
  ·rename_i e
   have:p.2=k:=aH h
   have:p=(a,k):=by rw[←e,←this]
   simp[this]
  ·exact ak _ (qO h)
theorem tL: ∀{l:List (Int×Int)} {a k:Int},Asc l→(a,k)∈l→sQ l a=some k
 |[],a,k,_,h=>by simp at h
 |p::r,a,k,hA,h=>by
  obtain⟨h1,h2⟩:=bG.1 hA
  rw[jZ]
  rcases aC.1 h with rfl|h
  ·simp
  ·rw[if_neg,tL h2 h]
   have:=h1 _ h
   simp at this
   omega
theorem tN: ∀{l:List (Int×Int)} (a k b:Int),Asc l→sQ (kM a k l) b=if a=b then some k else sQ l b
 |[],a,k,b,_=>by rw[kM,jZ]
 |p::r,a,k,b,h=>by
  obtain⟨h1,h2⟩:=bG.1 h
  unfold kM
  split
  ·rw[jZ]
  ·split
   ·rename_i e
    rw[jZ,jZ]
    by_cases hb:a=b
    ·simp[hb]
    ·rw[if_neg (by simpa using hb),if_neg (by simpa using hb),if_neg om]
   ·rw[jZ,jZ,tN a k b h2]
    by_cases hb:p.1=b
    ·rw[if_pos hb,if_pos hb,if_neg om]
    ·rw[if_neg hb,if_neg hb]
end
section
def Blk (x:Nat×Nat):Prop:=x.2≤6∧x.1 % 2 ^ x.2=0
def Inn (p:Nat) (x:Nat×Nat):Prop:=x.1≤p∧p<x.1+2 ^ x.2
instance (p:Nat) (x:Nat×Nat):Decidable (Inn p x):=inferInstanceAs (Decidable (_∧_))
def budN (x:Nat×Nat):Nat:=if x.1 / 2 ^ x.2 % 2=0 then x.1+2 ^ x.2 else x.1-2 ^ x.2
theorem E8 {k:Nat} (h:k≤6):(k=0∧2 ^ k=1)∨(k=1∧2 ^ k=2)∨(k=2∧2 ^ k=4)∨(k=3∧2 ^ k=8)∨(k=4∧2 ^ k=16)∨(k=5∧2 ^ k=32)∨(k=6∧2 ^ k=64):=by
 rcases k with _|_|_|_|_|_|_|k
 all_goals first|omega|simp
structure Tiles (n:Nat) (L:List (Nat×Nat)):Prop where
 blk: ∀x∈L,Blk x
 cov: ∀p,p<n→∃x∈L,Inn p x
 one: ∀x∈L,∀y∈L,∀p,Inn p x→Inn p y→x=y
 bound: ∀x∈L,x.1+2 ^ x.2≤n
def Apart (L:List (Nat×Nat)):Prop:=∀x∈L,x.2<6→(budN x,x.2)∉L
end
section
theorem half_blk {a k:Nat} (h:Blk (a,k+1)):Blk (a,k)∧Blk (a+2 ^ k,k)∧∀p,Inn p (a,k+1)↔(Inn p (a,k)∨Inn p (a+2 ^ k,k)):=by
 obtain⟨hk,ha⟩:=h
 unfold Blk Inn
 simp only at*
 rcases E8 (show k≤6 by omega) with⟨rfl,e⟩|⟨rfl,e⟩|⟨rfl,e⟩|⟨rfl,e⟩|⟨rfl,e⟩|⟨rfl,e⟩|⟨rfl,e⟩
 all_goals first
  |omega
  |(simp only[Nat.reduceAdd,Nat.reducePow] at*
    refine⟨⟨om,om⟩,⟨om,om⟩,fun p=>om⟩)
theorem wC {a k:Nat} (p:Nat):Inn p (a,k)→¬Inn p (a+2 ^ k,k):=by
 unfold Inn
 simp only
 omega
theorem Tiles.split {n:Nat} {L M:List (Nat×Nat)} (h:Tiles n L) {a k:Nat} (hx:(a,k+1)∈L)
 (hM: ∀z,z∈M↔(z∈L∧z≠(a,k+1))∨z=(a,k)∨z=(a+2 ^ k,k)):Tiles n M:=by
 obtain⟨b1,b2,hp⟩:=half_blk (h.blk _ hx)
 have hb:=h.bound _ hx
 have e2:2 ^ (k+1)=2 ^ k+2 ^ k:=by rw[Nat.pow_succ];omega
 simp only[e2] at hb
 have hpos:0<2 ^ k:=Nat.pos_of_ne_zero sI
 refine⟨fun z hz=> ?_,fun p hpn=> ?_,fun x hx' y hy' p px py=> ?_,fun z hz=> ?_⟩
 ·rcases(hM z).1 hz with⟨h1,_⟩|rfl|rfl
  ·exact h.blk z h1
  ·exact b1
  ·exact b2
 ·obtain⟨z,hz,pz⟩:=h.cov p hpn
  by_cases e:z=(a,k+1)
  ·subst e
   rcases(hp p).1 pz with q|q
   ·exact⟨_,(hM _).2 (.inr (.inl rfl)),q⟩
   ·exact⟨_,(hM _).2 (.inr (.inr rfl)),q⟩
  ·exact⟨z,(hM z).2 (.inl ⟨hz,e⟩),pz⟩
 ·rcases(hM x).1 hx' with⟨h1,n1⟩|rfl|rfl<;>rcases(hM y).1 hy' with⟨h2,n2⟩|rfl|rfl
  ·exact h.one x h1 y h2 p px py
  ·exact absurd (h.one x h1 _ hx p px ((hp p).2 (.inl py))) n1
  ·exact absurd (h.one x h1 _ hx p px ((hp p).2 (.inr py))) n1
  ·exact absurd (h.one y h2 _ hx p py ((hp p).2 (.inl px))) n2
  ·rfl
  ·exact absurd py (wC p px)
  ·exact absurd (h.one y h2 _ hx p py ((hp p).2 (.inr px))) n2
  ·exact absurd px (wC p py)
  ·rfl
 ·rcases(hM z).1 hz with⟨h1,_⟩|rfl|rfl
  ·exact h.bound z h1
  ·show a+2 ^ k≤n;omega
  ·show a+2 ^ k+2 ^ k≤n;omega
end
section
def nt (p:Int×Int):Nat×Nat:=(p.1.toNat,p.2.toNat)
theorem nt_inj {p q:Int×Int} (hp:0≤p.1∧0≤p.2) (hq:0≤q.1∧0≤q.2) (h:nt p=nt q):p=q:=by
 obtain⟨a,k⟩:=p
 obtain⟨b,m⟩:=q
 simp only[nt,Prod.mk.injEq] at*
 exact⟨om,om⟩
theorem wD {k:Int} (_:0≤k):sz k=((2 ^ k.toNat:Nat):Int):=by simp[sz]
theorem kr (k:Int):1≤sz k:=by
 have:0<2 ^ k.toNat:=Nat.pos_of_ne_zero sI
 have e:sz k=((2 ^ k.toNat:Nat):Int):=by simp[sz]
 omega
def BlkI (x:Int×Int):Prop:=0≤x.1∧0≤x.2∧x.2≤6∧x.1 % sz x.2=0
def Bg (p:Int) (x:Int×Int):Prop:=x.1≤p∧p<x.1+sz x.2
structure TI (n:Int) (L:List (Int×Int)):Prop where
 nn: ∀x∈L,0≤x.1∧0≤x.2
 t:Tiles n.toNat (L.map nt)
def ApI (L:List (Int×Int)):Prop:=∀x∈L,x.2<6→(vX x.1 x.2,x.2)∉L
theorem TI.mem {n:Int} {L:List (Int×Int)} (_:TI n L) {x:Int×Int} (hx:x∈L):nt x∈L.map nt:=dA.2 ⟨x,hx,rfl⟩
theorem blkI_of {x:Int×Int} (h0:0≤x.1∧0≤x.2) (h:Blk (nt x)):BlkI x:=by
 obtain⟨a,k⟩:=x
 obtain⟨h1,h2⟩:=h
 simp only[nt] at*
 refine⟨h0.1,h0.2,(by show k≤6;omega),?_⟩
 show a % sz k=0
 rw[wD h0.2,show a=((a.toNat:Nat):Int) by omega,←Int.natCast_emod,h2];rfl
theorem blk_nt {x:Int×Int} (h:BlkI x):Blk (nt x):=by
 obtain⟨a,k⟩:=x
 obtain⟨h0,h1,h2,h3⟩:=h
 simp only[nt] at*
 refine⟨(by show k.toNat≤6;omega),?_⟩
 show a.toNat % 2 ^ k.toNat=0
 rw[wD h1,show a=((a.toNat:Nat):Int) by omega,←Int.natCast_emod] at h3
 exact Int.ofNat.inj h3
theorem wE {p:Int} {x:Int×Int} (h0:0≤x.1∧0≤x.2) (hp:0≤p):Inn p.toNat (nt x)↔Bg p x:=by
 unfold Inn Bg nt
 rw[wD h0.2]
 simp only
 omega
theorem TI.blk {n:Int} {L:List (Int×Int)} (h:TI n L) {x:Int×Int} (hx:x∈L):BlkI x:=blkI_of (h.nn x hx) (h.t.blk _ (h.mem hx))
theorem TI.bound {n:Int} {L:List (Int×Int)} (h:TI n L) {x:Int×Int} (hx:x∈L):x.1+sz x.2≤n:=by
 have:=h.t.bound _ (h.mem hx)
 have h0:=h.nn x hx
 simp only[nt] at this
 have hpos:0<2 ^ x.2.toNat:=Nat.pos_of_ne_zero sI
 rw[wD h0.2];omega
theorem TI.cov {n:Int} {L:List (Int×Int)} (h:TI n L) {p:Int} (p0:0≤p) (pn:p<n): ∃x∈L,Bg p x:=by
 obtain⟨y,hy,py⟩:=h.t.cov p.toNat om
 obtain⟨x,hx,rfl⟩:=dA.1 hy
 exact⟨x,hx,(wE (h.nn x hx) p0).1 py⟩
theorem TI.one {n:Int} {L:List (Int×Int)} (h:TI n L) {x y:Int×Int} (hx:x∈L) (hy:y∈L) {p:Int} (px:Bg p x) (py:Bg p y):x=y:=by
 have p0:0≤p:=by have:=(h.nn x hx).1;have:=px.1;omega
 exact nt_inj (h.nn x hx) (h.nn y hy) (h.t.one _ (h.mem hx) _ (h.mem hy) p.toNat ((wE (h.nn x hx) p0).2 px) ((wE (h.nn y hy) p0).2 py))
theorem TI.same {n:Int} {L:List (Int×Int)} (h:TI n L) {x y:Int×Int} (hx:x∈L) (hy:y∈L) (e:x.1=y.1):x=y:=
 h.one hx hy (p:=x.1) ⟨bZ _,by have:=kr x.2;omega⟩ ⟨om,by have:=kr y.2;omega⟩
theorem nt_iff {M:List (Int×Int)} {P:Int×Int→Prop} {Q:Nat×Nat→Prop} (hM: ∀z,z∈M↔P z) (hPQ: ∀z,P z→Q (nt z)) (hQP: ∀y,Q y→∃z,nt z=y∧P z):
 ∀y,y∈M.map nt↔Q y:=by
 intro y
 constructor
 ·intro h
  obtain⟨z,hz,rfl⟩:=dA.1 h
  exact hPQ z ((hM z).1 hz)
 ·intro h
  obtain⟨z,rfl,hz⟩:=hQP y h
  exact dA.2 ⟨z,(hM z).2 hz,rfl⟩
theorem TI.split {n:Int} {L M:List (Int×Int)} (h:TI n L) {a k:Int} (k0:0≤k) (hx:(a,k+1)∈L)
 (hM: ∀z,z∈M↔(z∈L∧z≠(a,k+1))∨z=(a,k)∨z=(a+sz k,k)):TI n M:=by
 have a0:=(h.nn _ hx).1
 simp only at a0
 have sk:=kr k
 have nnM: ∀z∈M,0≤z.1∧0≤z.2:=fun z hz=>by
  rcases(hM z).1 hz with⟨h1,_⟩|rfl|rfl
  ·exact h.nn z h1
  ·exact⟨a0,k0⟩
  ·exact⟨(show(0:Int)≤a+sz k by omega),k0⟩
 have e1:nt (a,k+1)=(a.toNat,k.toNat+1):=by simp only[nt,Prod.mk.injEq];exact⟨trivial,om⟩
 have hsn:=wD k0
 have e2:nt (a+sz k,k)=(a.toNat+2 ^ k.toNat,k.toNat):=by
  simp only[nt,Prod.mk.injEq]
  exact⟨om,trivial⟩
 refine⟨nnM,h.t.split (a:=a.toNat) (k:=k.toNat) (e1▸h.mem hx) ?_⟩
 refine nt_iff (P:=fun z=>(z∈L∧z≠(a,k+1))∨z=(a,k)∨z=(a+sz k,k)) hM ?_ ?_
 ·rintro z (⟨h1,h2⟩|rfl|rfl)
  ·exact .inl ⟨h.mem h1,fun e=>h2 (nt_inj (h.nn z h1) (h.nn _ hx) (e.trans e1.symm))⟩
  ·exact .inr (.inl rfl)
  ·exact .inr (.inr e2)
 ·rintro y (⟨h1,h2⟩|rfl|rfl)
  ·obtain⟨z,hz,rfl⟩:=dA.1 h1
   exact⟨z,rfl,.inl ⟨hz,fun e=>h2 (by rw[e,e1])⟩⟩
  ·exact⟨(a,k),rfl,.inr (.inl rfl)⟩
  ·exact⟨(a+sz k,k),e2,.inr (.inr rfl)⟩
end
section
def tC (x:Int×Int):List (Int×Int)→Int×Int
 |[]=>x
 |y::r=>tC (if y.2<x.2 then y else x) r
def vY (k:Int) (F:List (Int×Int)):List (Int×Int):=F.filter fun p=> !decide (p.2<k)
def jE (k:Int) (F:List (Int×Int)):Option (Int×Int):=match vY k F with|[]=>none|x::r=>some (tC x r)
def nW:Nat→Int→Int→List (Int×Int)→List (Int×Int)
 |0,_,_,F=>F
 |d+1,a,k,F=>nW d a k (kM (a+sz (k+d)) (k+d) F)
def upF:Nat→Int→Int→List (Int×Int)→(Int×Int)×List (Int×Int)
 |0,a,k,F=>((a,k),F)
 |f+1,a,k,F=>if sQ F (vX a k)=some k then upF f (rV a k) (k+1) (mG (vX a k) F) else((a,k),F)
def nL (k:Int) (x:Int×Int) (F:List (Int×Int)):List (Int×Int):=nW (x.2-k).toNat x.1 k (mG x.1 F)
def giveF (a k:Int) (F:List (Int×Int)):List (Int×Int):=kM (upF (6-k).toNat a k F).1.1 (upF (6-k).toNat a k F).1.2 (upF (6-k).toNat a k F).2
def jA:List (Int×Int)→Int
 |[]=>0
 |x::r=>sz x.2+jA r
theorem Bh: ∀(x:Int×Int) (r:List (Int×Int)),tC x r∈x::r
 |x,[]=>by simp[tC]
 |x,y::r=>by
  unfold tC
  rcases aC.1 (Bh (if y.2<x.2 then y else x) r) with h|h
  ·rw[h]
   split<;>simp
  ·exact ak _ (ak _ h)
theorem Bj {k:Int} {F:List (Int×Int)} {p:Int×Int}:p∈vY k F↔p∈F∧k≤p.2:=by simp[vY]
theorem jN {k:Int} {F:List (Int×Int)} {x:Int×Int} (h:jE k F=some x):x∈F∧k≤x.2:=by
 unfold jE at h
 split at h
 ·cases h
 ·rename_i y r e
  obtain rfl:=aH h
  exact Bj.1 (e▸Bh y r)
theorem wF {k:Int} {F:List (Int×Int)} (h:jE k F=none): ∀p∈F,p.2<k:=by
 intro p hp
 unfold jE at h
 split at h
 ·rename_i e
  rcases Int.lt_or_le p.2 k with h'|h'
  ·exact h'
  ·have:=Bj.2 ⟨hp,h'⟩
   rw[e] at this
   cases this
 ·cases h
theorem Ea {l:List (Int×Int)} (h:Asc l) (z:Int×Int):z∈l↔sQ l z.1=some z.2:=⟨fun hz=>tL h hz,fun hz=>qO hz⟩
theorem xA {l:List (Int×Int)} (h:Asc l) {a k:Int} {z:Int×Int}:z∈kM a k l↔z=(a,k)∨(z∈l∧z.1≠a):=by
 obtain⟨b,m⟩:=z
 rw[Ea (h.put a k),tN a k _ h,Ea h]
 simp only[Prod.mk.injEq]
 by_cases e:a=b
 ·subst e
  rw[if_pos rfl]
  constructor
  ·intro q;exact .inl ⟨rfl,(aH q).symm⟩
  ·rintro(⟨_,q⟩|⟨_,q⟩)
   ·rw[q]
   ·exact absurd rfl q
 ·rw[if_neg e]
  constructor
  ·intro q;exact .inr ⟨q,fun x=>e x.symm⟩
  ·rintro(⟨q,_⟩|⟨q,_⟩)
   ·exact absurd q.symm e
   ·exact q
structure Inv (n:Int) (F T:List (Int×Int)):Prop where
 n1:1≤n
 n2:n≤256
 fa:Asc F
 ta:Asc T
 t:TI n (F++T)
 dis: ∀p∈F,p∉T
 ap:ApI F
structure oW (n:Int) (F T:List (Int×Int)) (x:Int×Int):Prop where
 n1:1≤n
 n2:n≤256
 fa:Asc F
 ta:Asc T
 t:TI n (x::(F++T))
 dis: ∀p∈F,p∉T
 nf:x∉F
 ntk:x∉T
 ap:ApI F
theorem wG (x:Int×Int):Bg x.1 x:=⟨bZ _,by have:=kr x.2;omega⟩
theorem Inv.DX {n:Int} {F T:List (Int×Int)} (_:Inv n F T) {x:Int×Int} (hx:x∈F):x∈F++T:=av _ hx
theorem Inv.memT {n:Int} {F T:List (Int×Int)} (_:Inv n F T) {x:Int×Int} (hx:x∈T):x∈F++T:=aA _ hx
theorem Inv.hand {n:Int} {F T:List (Int×Int)} (h:Inv n F T) {x:Int×Int} (hx:x∈F):oW n (mG x.1 F) T x:=by
 have hd: ∀z,z∈mG x.1 F↔z∈F∧z≠x:=fun z=>by
  rw[Bf]
  exact⟨fun⟨q,r⟩=>⟨q,fun e=>r (by rw[e])⟩,fun⟨q,r⟩=>⟨q,fun e=>r (h.t.same (h.DX q) (h.DX hx) e)⟩⟩
 refine⟨h.n1,h.n2,h.fa.del _,h.ta,?_,fun p hp=>h.dis p ((hd p).1 hp).1,fun q=>((hd x).1 q).2 rfl,h.dis x hx,fun y hy h6 hb=>h.ap y ((hd y).1 hy).1 h6 ((hd _).1 hb).1⟩
 have hm: ∀z,z∈x::(mG x.1 F++T)↔z∈F++T:=fun z=>by
  simp only[aC,aG,hd]
  constructor
  ·rintro(rfl|⟨q,_⟩|q)
   ·exact .inl hx
   ·exact .inl q
   ·exact .inr q
  ·rintro(q|q)
   ·by_cases e:z=x
    ·exact .inl e
    ·exact .inr (.inl ⟨q,e⟩)
   ·exact .inr (.inr q)
 have t:=h.t
 have hm2: ∀y,y∈(x::(mG x.1 F++T)).map nt↔y∈(F++T).map nt:=fun y=>by
  simp only[dA,hm]
 exact⟨fun z hz=>t.nn z ((hm z).1 hz),⟨fun y hy=>t.t.blk y ((hm2 y).1 hy),fun p hp=>by obtain⟨y,hy,q⟩:=t.t.cov p hp;exact⟨y,(hm2 y).2 hy,q⟩,
  fun y hy z hz p=>t.t.one y ((hm2 y).1 hy) z ((hm2 z).1 hz) p,fun y hy=>t.t.bound y ((hm2 y).1 hy)⟩⟩
theorem TI.congr {n:Int} {L M:List (Int×Int)} (t:TI n L) (hm: ∀z,z∈M↔z∈L):TI n M:=by
 have hm2: ∀y,y∈M.map nt↔y∈L.map nt:=fun y=>by simp only[dA,hm]
 exact⟨fun z hz=>t.nn z ((hm z).1 hz),⟨fun y hy=>t.t.blk y ((hm2 y).1 hy),fun p hp=>by obtain⟨y,hy,q⟩:=t.t.cov p hp;exact⟨y,(hm2 y).2 hy,q⟩,
  fun y hy z hz p=>t.t.one y ((hm2 y).1 hy) z ((hm2 z).1 hz) p,fun y hy=>t.t.bound y ((hm2 y).1 hy)⟩⟩
theorem oW.other {n:Int} {F T:List (Int×Int)} {x:Int×Int} (h:oW n F T x) {z:Int×Int} (hz:z∈F++T):z.1≠x.1:=fun e=>by
 have:=h.t.same (ak _ hz) (aD ..) e
 subst this
 rcases aG.1 hz with q|q
 ·exact h.nf q
 ·exact h.ntk q
theorem oW.blk {n:Int} {F T:List (Int×Int)} {x:Int×Int} (h:oW n F T x):BlkI x:=h.t.blk (aD ..)
theorem oW.putT {n:Int} {F T:List (Int×Int)} {a k:Int} (h:oW n F T (a,k)):Inv n F (kM a k T):=by
 have hd: ∀z,z∈kM a k T↔z=(a,k)∨z∈T:=fun z=>by
  rw[xA h.ta]
  exact⟨fun q=>q.imp id And.left,fun q=>q.imp id fun r=>⟨r,h.other (aA _ r)⟩⟩
 refine⟨h.n1,h.n2,h.fa,h.ta.put _ _,h.t.congr fun z=> ?_,fun p hp q=> ?_,h.ap⟩
 ·simp only[aC,aG,hd]
  constructor
  ·rintro(q|q|q)
   ·exact .inr (.inl q)
   ·exact .inl q
   ·exact .inr (.inr q)
  ·rintro(q|q|q)
   ·exact .inr (.inl q)
   ·exact .inl q
   ·exact .inr (.inr q)
 ·rcases(hd p).1 q with rfl|q
  ·exact h.nf hp
  ·exact h.dis p hp q
theorem Bl {a k:Int} (k0:0≤k) (k5:k≤5) (h:a % sz (k+1)=0):a % sz k=0∧vX a k=a+sz k∧rV a k=a∧vX (a+sz k) k=a∧(a+sz k) % sz k=0:=by
 have e:k=0∨k=1∨k=2∨k=3∨k=4∨k=5:=om
 unfold vX rV
 rcases e with rfl|rfl|rfl|rfl|rfl|rfl<;>simp only[sz0,sz1,sz2,sz3,sz4,sz5,sz6,show(0:Int)+1=1 from rfl,show(1:Int)+1=2 from rfl,show(2:Int)+1=3 from rfl,show(3:Int)+1=4 from rfl,show(4:Int)+1=5 from rfl,show(5:Int)+1=6 from rfl] at* <;>(refine⟨?_,?_,?_,?_,?_⟩<;>omega)
theorem oW.cut {n:Int} {F T:List (Int×Int)} {a k:Int} (k0:0≤k) (h:oW n F T (a,k+1)):oW n (kM (a+sz k) k F) T (a,k):=by
 obtain⟨b0,b1,b2,b3⟩:=h.blk
 have bn:=h.t.bound (aD ..)
 have sk:=kr k
 have n2:=h.n2
 simp only at b0 b1 b2 b3 bn
 have e2:=qy k0 om
 obtain⟨m1,m2,m3,m4,m5⟩:=Bl k0 om b3
 have hno: ∀z:Int×Int,z∈F++T→∀p,Bg p z→¬(a≤p∧p<a+sz (k+1)):=fun z hz p hp hq=>by
  have:=h.t.one (ak _ hz) (aD ..) hp hq
  exact h.other hz (by rw[this])
 have hd: ∀z,z∈kM (a+sz k) k F↔z=(a+sz k,k)∨z∈F:=fun z=>by
  rw[xA h.fa]
  refine⟨fun q=>q.imp id And.left,fun q=>q.imp id fun r=>⟨r,fun e=> ?_⟩⟩
  exact hno z (av _ r) z.1 (wG z) ⟨om,om⟩
 have hlow:(a,k)∉F++T:=fun q=>hno _ q a (wG (a,k)) ⟨om,om⟩
 have hhigh:(a+sz k,k)∉F++T:=fun q=>hno _ q (a+sz k) (wG (a+sz k,k)) ⟨om,om⟩
 refine⟨h.n1,h.n2,h.fa.put _ _,h.ta,h.t.split (a:=a) (k:=k) k0 (aD ..) fun z=> ?_,fun p hp q=> ?_,fun q=> ?_,fun q=>hlow (aA _ q),fun y hy h6 hbad=> ?_⟩
 ·simp only[aC,aG,hd]
  constructor
  ·rintro(q|(q|q)|q)
   ·exact .inr (.inl q)
   ·exact .inr (.inr q)
   ·exact .inl ⟨.inr (.inl q),fun e=>h.nf (e▸q)⟩
   ·exact .inl ⟨.inr (.inr q),fun e=>h.ntk (e▸q)⟩
  ·rintro(⟨q|q|q,r⟩|q|q)
   ·exact absurd q r
   ·exact .inr (.inl (.inr q))
   ·exact .inr (.inr q)
   ·exact .inl q
   ·exact .inr (.inl (.inl q))
 ·rcases(hd p).1 hp with rfl|hp
  ·exact hhigh (aA _ q)
  ·exact h.dis p hp q
 ·rcases(hd _).1 q with e|q
  ·have:a=a+sz k:=congrArg Prod.fst e
   omega
  ·exact hlow (av _ q)
 ·rcases(hd y).1 hy with rfl|hy
  ·simp only[m4] at hbad
   rcases(hd _).1 hbad with e|q
   ·have:a=a+sz k:=congrArg Prod.fst e
    omega
   ·exact hlow (av _ q)
  ·rcases(hd _).1 hbad with e|hbad
   ·have e1:vX y.1 y.2=a+sz k:=congrArg Prod.fst e
    have e2':y.2=k:=congrArg Prod.snd e
    have by':=h.t.blk (ak _ (av _ hy))
    have bny:=h.t.bound (ak _ (av T hy))
    have:=kr y.2
    obtain⟨_,hinv,_⟩:=kin by'.1 om by'.2.1 om by'.2.2.2
    rw[e1,e2',m4] at hinv
    refine hlow (av _ ?_)
    have:y=(a,k):=Prod.ext hinv.symm e2'
    exact this▸hy
   ·exact h.ap y hy h6 hbad
theorem oW.down {n:Int} {T:List (Int×Int)} {a k:Int} (k0:0≤k): ∀(d:Nat) {F:List (Int×Int)},oW n F T (a,k+d)→oW n (nW d a k F) T (a,k)
 |0,F,h=>by simpa[nW] using h
 |d+1,F,h=>by
  unfold nW
  refine oW.down k0 d (oW.cut om ?_)
  have e:k+((d+1:Nat):Int)=k+d+1:=om
  rw[e] at h
  exact h
theorem Inv.take {n:Int} {F T:List (Int×Int)} (h:Inv n F T) {k:Int} (k0:0≤k) {x:Int×Int} (hx:jE k F=some x):Inv n (nL k x F) (kM x.1 k T):=by
 obtain⟨h1,h2⟩:=jN hx
 have hh:=h.hand h1
 obtain⟨a,m⟩:=x
 simp only at h2
 refine oW.putT (oW.down k0 _ ?_)
 rwa [show k+(((m-k).toNat:Nat):Int)=m by omega]
end
section
theorem Asc.len: ∀{l:List (Int×Int)} {a e:Int},Asc l→(∀p∈l,a≤p.1∧p.1<e)→a≤e→(l.length:Int)≤e-a
 |[],a,e,_,_,h=>by simp;omega
 |p::r,a,e,hA,hr,h=>by
  obtain⟨h1,h2⟩:=bG.1 hA
  have hp:=hr p sI
  have:=Asc.len (a:=p.1+1) (e:=e) h2 (fun q hq=>⟨by have:=h1 q hq;omega,(hr q (by simp[hq])).2⟩) om
  simp only[dw]
  omega
theorem Inv.rngF {n:Int} {F T:List (Int×Int)} (h:Inv n F T) {p:Int×Int} (hp:p∈F):0≤p.1∧p.1<256∧0≤p.2∧p.2≤6:=by
 obtain⟨b0,b1,b2,_⟩:=h.t.blk (h.DX hp)
 have:=h.t.bound (h.DX hp)
 have:=kr p.2
 have:=h.n2
 exact⟨b0,om,b1,b2⟩
theorem Inv.rngT {n:Int} {F T:List (Int×Int)} (h:Inv n F T) {p:Int×Int} (hp:p∈T):0≤p.1∧p.1<256∧0≤p.2∧p.2≤6:=by
 obtain⟨b0,b1,b2,_⟩:=h.t.blk (h.memT hp)
 have:=h.t.bound (h.memT hp)
 have:=kr p.2
 have:=h.n2
 exact⟨b0,om,b1,b2⟩
theorem oW.rng {n:Int} {F T:List (Int×Int)} {x:Int×Int} (h:oW n F T x) {p:Int×Int} (hp:p∈x::(F++T)):0≤p.1∧p.1<256∧0≤p.2∧p.2≤6:=by
 obtain⟨b0,b1,b2,_⟩:=h.t.blk hp
 have:=h.t.bound hp
 have:=kr p.2
 have:=h.n2
 exact⟨b0,om,b1,b2⟩
theorem lY {l:List (Int×Int)} (hA:Asc l) (hr: ∀p∈l,0≤p.1∧p.1<256∧0≤p.2∧p.2≤6):l.length≤256:=by
 have:=hA.len (a:=0) (e:=256) (fun p hp=>⟨(hr p hp).1,(hr p hp).2.1⟩) om
 omega
theorem Inv.lenF {n:Int} {F T:List (Int×Int)} (h:Inv n F T):F.length≤256:=lY h.fa fun _=>h.rngF
theorem Inv.lenT {n:Int} {F T:List (Int×Int)} (h:Inv n F T):T.length≤256:=lY h.ta fun _=>h.rngT
theorem Chain.low {e:Int}: ∀{a:Int} {l:List (Int×Int)},Chain e a l→0≤a→∀x∈l,a≤x.1∧x.1+sz x.2≤e∧BlkI x
 |_,[],_,_,x,hx=>by cases hx
 |a,b::r,⟨h1,h2,h3,h4,h5,h6⟩,h0,x,hx=>by
  have:=kr b.2
  rcases aC.1 hx with rfl|hx
  ·exact⟨om,om,⟨om,h2,h3,by rw[h1];exact h4⟩⟩
  ·obtain⟨c1,c2,c3⟩:=Chain.low h6 om x hx
   exact⟨om,c2,c3⟩
theorem Chain.cov {e:Int}: ∀{a:Int} {l:List (Int×Int)},Chain e a l→∀p,a≤p→p<e→∃x∈l,Bg p x
 |_,[],h,p,h1,h2=>by simp only[Chain] at h;omega
 |a,b::r,⟨h1,_,_,_,_,h6⟩,p,p1,p2=>by
  by_cases h:p<a+sz b.2
  ·exact⟨b,sI,⟨om,om⟩⟩
  ·obtain⟨x,hx,q⟩:=Chain.cov h6 p om p2
   exact⟨x,by simp[hx],q⟩
theorem Chain.asc {e:Int}: ∀{a:Int} {l:List (Int×Int)},Chain e a l→0≤a→l.Pairwise fun x y=>x.1+sz x.2≤y.1
 |_,[],_,_=>List.Pairwise.nil
 |a,b::r,⟨h1,_,_,_,_,h6⟩,h0=>by
  have:=kr b.2
  exact bG.2 ⟨fun y hy=>by have:=(Chain.low h6 om y hy).1;omega,Chain.asc h6 om⟩
theorem TI.mk' {n:Int} {L:List (Int×Int)} (hb: ∀x∈L,BlkI x) (hc: ∀p,0≤p→p<n→∃x∈L,Bg p x) (h1: ∀x∈L,∀y∈L,∀p,Bg p x→Bg p y→x=y) (hn: ∀x∈L,x.1+sz x.2≤n):TI n L:=by
 have nn: ∀x∈L,0≤x.1∧0≤x.2:=fun x hx=>⟨(hb x hx).1,(hb x hx).2.1⟩
 have back: ∀y∈L.map nt,∃x∈L,nt x=y:=fun y hy=>by simpa using hy
 refine⟨nn,⟨fun y hy=> ?_,fun p hp=> ?_,fun y hy z hz p py pz=> ?_,fun y hy=> ?_⟩⟩
 ·obtain⟨x,hx,rfl⟩:=back y hy
  exact blk_nt (hb x hx)
 ·obtain⟨x,hx,q⟩:=hc p om om
  refine⟨nt x,dA.2 ⟨x,hx,rfl⟩,?_⟩
  have:=(wE (p:=p) (nn x hx) om).2 q
  simpa using this
 ·obtain⟨x,hx,rfl⟩:=back y hy
  obtain⟨x',hx',rfl⟩:=back z hz
  have q1:=(wE (p:=(p:Int)) (nn x hx) om).1 (by simpa using py)
  have q2:=(wE (p:=(p:Int)) (nn x' hx') om).1 (by simpa using pz)
  rw[h1 x hx x' hx' _ q1 q2]
 ·obtain⟨x,hx,rfl⟩:=back y hy
  have:=hn x hx
  have h0:=nn x hx
  rw[wD h0.2] at this
  show x.1.toNat+2 ^ x.2.toNat≤n.toNat
  omega
theorem yw {L:List (Int×Int)} (h:L.Pairwise fun x y=>x.1+sz x.2≤y.1): ∀x∈L,∀y∈L,∀p,Bg p x→Bg p y→x=y:=by
 induction h with
 |nil=>intro x hx;cases hx
 | @cons b r hb _ ih=>
   intro x hx y hy p px py
   unfold Bg at px py
   rcases aC.1 hx with rfl|hx<;>rcases aC.1 hy with rfl|hy
   ·rfl
   ·have:=hb _ hy;omega
   ·have:=hb _ ‹_∈r›;omega
   ·exact ih x ‹_› y ‹_› p px py
theorem Chain.tiles {n:Int} {l:List (Int×Int)} (h:Chain n 0 l):TI n l:=
 TI.mk' (fun x hx=>(h.low (bZ _) x hx).2.2) (fun p p0 pn=>h.cov p p0 pn) (yw (h.asc (bZ _))) (fun x hx=>(h.low (bZ _) x hx).2.1)
theorem Bn: ∀(f:Nat) (a n:Int),n.toNat≤f→∀x∈oL a n,x.2=q8 x.1 (a+n-x.1)∧x.1<a+n
 |0,a,n,h,x,hx=>by rw[kW om] at hx;cases hx
 |f+1,a,n,h,x,hx=>by
  by_cases h0:n≤0
  ·rw[kW h0] at hx;cases hx
  ·rw[oV om] at hx
   have:=kr (q8 a n)
   rcases aC.1 hx with rfl|hx
   ·refine⟨?_,(show a<a+n by omega)⟩
    show q8 a n=q8 a (a+n-a)
    rw[show a+n-a=n by omega]
   ·obtain⟨c1,c2⟩:=Bn f _ _ om x hx
    rw[show a+sz (q8 a n)+(n-sz (q8 a n))=a+n by omega] at c1 c2
    exact⟨c1,c2⟩
theorem cov_ap {n:Int} (n0:0≤n) (n2:n≤256):ApI (oL 0 n):=by
 have hch:=nT n.toNat 0 n (aI _) n0
 rw[show(0:Int)+n=n by omega] at hch
 have key: ∀a k:Int,(a,k)∈oL 0 n→k<6→a % sz (k+1)=0→(a+sz k,k)∉oL 0 n:=by
  intro a k h1 h6 hm h2
  obtain⟨_,k0,_,_⟩:=(hch.low (bZ _) _ h1).2.2
  have e:=(Bn n.toNat 0 n (aI _) _ h1).1
  have hb:=(hch.low (bZ _) _ h2).2.1
  simp only at e hb k0
  have e2:=qy k0 om
  exact xu (a:=a) (n:=0+n-a) (k:=k+1) om om ⟨hm,om⟩
 intro x hx h6 hb
 obtain⟨a,k⟩:=x
 obtain⟨b1,b2,b0,k0,k6,hm⟩:=hch.low (bZ _) _ hx
 have sk:=kr k
 simp only at b1 b2 b0 k0 k6 hm h6 hb
 obtain⟨_,hinv,hpar,⟨_,_,p2⟩,hcase,_⟩:=kin b0 om k0 om hm
 rcases hcase with⟨c1,c2⟩|⟨c1,c2⟩
 ·rw[c1] at c2 p2
  exact key a k hx h6 p2 (c2▸hb)
 ·rw[c1] at c2 p2
  exact key _ k hb h6 p2 (by rw[←c2];exact hx)
theorem yx {L:List (Int×Int)} (h:L.Pairwise fun x y=>x.1+sz x.2≤y.1):Asc L:=h.imp fun {x y} q=>by have:=kr x.2;omega
theorem cov_asc {n:Int} (n0:0≤n):Asc (oL 0 n):=yx ((nT n.toNat 0 n (aI _) n0).asc (bZ _))
theorem Inv.start {n:Int} (n1:1≤n) (n2:n≤256):Inv n (oL 0 n) []:=by
 have hch:=nT n.toNat 0 n (aI _) om
 rw[show(0:Int)+n=n by omega] at hch
 exact⟨n1,n2,cov_asc om,List.Pairwise.nil,by rw[dF];exact hch.tiles,(fun _ _ h=>by cases h),cov_ap om n2⟩
theorem yA: ∀{l:List (Int×Int)} {a:Int} (k:Int),(∀p∈l,p.1<a)→kM a k l=l++[(a,k)]
 |[],_,_,_=>rfl
 |p::r,a,k,h=>by
  have:=h p sI
  unfold kM
  rw[if_neg om,if_neg om,yA k fun q hq=>h q (by simp[hq])]
  rfl
theorem qC: ∀l m:List (Int×Int),jA (l++m)=jA l+jA m
 |[],m=>by simp[jA]
 |x::r,m=>by simp only[List.cons_append,jA,qC r m];omega
theorem kP: ∀l:List (Int×Int),0≤jA l
 |[]=>bZ _
 |x::r=>by have:=kP r;have:=kr x.2;simp only[jA];omega
theorem Bo: ∀{l:List (Int×Int)} {a:Int} (k:Int),(∀p∈l,p.1≠a)→jA (kM a k l)=sz k+jA l
 |[],a,k,_=>by simp[kM,jA]
 |p::r,a,k,h=>by
  have h1:=h p sI
  unfold kM
  by_cases c:a<p.1
  ·rw[if_pos c];simp only[jA]
  ·rw[if_neg c,if_neg (fun e=>h1 e.symm)]
   have:=Bo (l:=r) k fun q hq=>h q (ak _ hq)
   simp only[jA];omega
theorem Bp: ∀{l:List (Int×Int)} {x:Int×Int},Asc l→x∈l→jA (mG x.1 l)=jA l-sz x.2
 |[],x,_,h=>by cases h
 |p::r,x,hA,h=>by
  obtain⟨h1,h2⟩:=bG.1 hA
  rcases aC.1 h with rfl|h
  ·have e:mG x.1 (x::r)=r:=by
    have:mG x.1 (x::r)=mG x.1 r:=by simp[mG]
    rw[this,mG,fB.2 fun q hq=>by have:=h1 q hq;simp;omega]
   rw[e];simp only[jA];omega
  ·have:=h1 x h
   have e:mG x.1 (p::r)=p::mG x.1 r:=by
    have: ¬p.1=x.1:=om
    simp[mG,this]
   rw[e];simp only[jA,Bp h2 h];omega
theorem yB {e:Int}: ∀{a:Int} {l:List (Int×Int)},Chain e a l→jA l=e-a
 |_,[],h=>by simp only[Chain] at h;simp[jA];omega
 |a,b::r,⟨_,_,_,_,_,h6⟩=>by simp only[jA,yB h6];omega
theorem sum_le {e:Int}: ∀{a:Int} {l:List (Int×Int)},a≤e→(l.Pairwise fun x y=>x.1+sz x.2≤y.1)→(∀x∈l,a≤x.1∧x.1+sz x.2≤e)→jA l≤e-a
 |a,[],h,_,_=>by simp[jA];omega
 |a,b::r,h,hP,hr=>by
  obtain⟨h1,h2⟩:=bG.1 hP
  have hb:=hr b sI
  have:=sum_le (a:=b.1+sz b.2) (e:=e) om h2 fun x hx=>⟨h1 x hx,(hr x (by simp[hx])).2⟩
  simp only[jA];omega
theorem Eb {n:Int} {L l:List (Int×Int)} (t:TI n L) (hs: ∀x∈l,x∈L) (hA:Asc l):l.Pairwise fun x y=>x.1+sz x.2≤y.1:=by
 refine hA.imp_of_mem fun {x y} hx hy q=> ?_
 rcases Int.lt_or_le y.1 (x.1+sz x.2) with h|h
 ·have:=t.one (hs x hx) (hs y hy) (p:=y.1) ⟨om,h⟩ (wG y)
  rw[this] at q;omega
 ·exact h
theorem Inv.Ec {n:Int} {F T:List (Int×Int)} (h:Inv n F T):0≤jA F∧jA F≤n:=by
 refine⟨kP F,?_⟩
 have:=sum_le (a:=0) (e:=n) (by have:=h.n1;omega) (Eb h.t (fun x hx=>h.DX hx) h.fa) fun x hx=>⟨(h.rngF hx).1,h.t.bound (h.DX hx)⟩
 omega
theorem oW.Bq {n:Int} {T:List (Int×Int)} {a k:Int} (k0:0≤k): ∀(d:Nat) {F:List (Int×Int)},oW n F T (a,k+d)→jA (nW d a k F)=jA F+sz (k+d)-sz k
 |0,F,_=>by simp[nW]
 |d+1,F,h=>by
  have e:k+((d+1:Nat):Int)=k+d+1:=om
  rw[e] at h
  have hc:=oW.cut om h
  have b2:=h.blk.2.2.1
  simp only at b2
  unfold nW
  rw[oW.Bq k0 d hc,e,qy om om,Bo _ fun p hp q=> ?_]
  ·omega
  ·have:=h.t.one (ak _ (av _ hp)) (aD ..) (p:=p.1) (wG p)
    ⟨by have:=kr (k+d);omega,by show p.1<a+sz (k+d+1);have:=kr (k+d);have:=qy (k:=k+d) om om;omega⟩
   exact h.nf (this▸hp)
theorem Inv.Br {n:Int} {F T:List (Int×Int)} (h:Inv n F T) {k:Int} (k0:0≤k) {x:Int×Int} (hx:jE k F=some x):jA (nL k x F)=jA F-sz k:=by
 obtain⟨h1,h2⟩:=jN hx
 have hh:=h.hand h1
 have hd:=Bp h.fa h1
 obtain⟨a,m⟩:=x
 simp only at h2 hd
 have e:k+(((m-k).toNat:Nat):Int)=m:=om
 have:=oW.Bq (a:=a) k0 (m-k).toNat (F:=mG a F) (T:=T) (n:=n) (by rw[e];exact hh)
 rw[e] at this
 show jA (nW (m-k).toNat a k (mG a F))=_
 omega
end
section
theorem xB: ∀{l:List (Int×Int)} {a k:Int} {j:Nat},(∀x∈l.take j,x.1<a)→(∀x∈l.drop j,a<x.1)→kM a k l=l.take j++(a,k)::l.drop j
 |[],a,k,j,_,_=>by simp[kM]
 |p::r,a,k,0,_,h2=>by
  have:=h2 p sI
  unfold kM
  rw[if_pos this]
  rfl
 |p::r,a,k,j+1,h1,h2=>by
  have:=h1 p sI
  unfold kM
  rw[if_neg om,if_neg om,xB (j:=j) (fun x hx=>h1 x (by simp[hx])) (fun x hx=>h2 x (by simpa using hx))]
  rfl
theorem Bt: ∀{l:List (Int×Int)} {z:Int×Int} {j:Nat},Asc l→l[j]?=some z→mG z.1 l=l.take j++l.drop (j+1)
 |[],z,j,_,h=>by simp at h
 |p::r,z,0,hA,h=>by
  obtain⟨h1,h2⟩:=bG.1 hA
  simp at h
  subst h
  have:mG p.1 (p::r)=mG p.1 r:=by simp[mG]
  rw[this,mG,fB.2 fun q hq=>by have:=h1 q hq;simp;omega]
  rfl
 |p::r,z,j+1,hA,h=>by
  obtain⟨h1,h2⟩:=bG.1 hA
  have hz:r[j]?=some z:=by simpa using h
  have:=h1 z (aB hz)
  have e:mG z.1 (p::r)=p::mG z.1 r:=by
   have: ¬p.1=z.1:=om
   simp[mG,this]
  rw[e,Bt h2 hz]
  rfl
theorem cut_at {l:List (Int×Int)} {a:Int} {j:Nat} (hA:Asc l) (hne: ∀x∈l,x.1≠a) (_: ∀x∈l.take j,x.1<a) (hj: ∀x,l[j]?=some x→a≤x.1): ∀x∈l.drop j,a<x.1:=by
 intro x hx
 cases e:l[j]? with
 |none=>
  rw[dN (by simpa using e)] at hx
  cases hx
 |some y=>
  have h0:=hj y e
  have hy:=hne y (aB e)
  rw[dV (aj.1 e).1,(aj.1 e).2] at hx
  rcases aC.1 hx with rfl|hx
  ·omega
  ·have hA':Asc (l.drop j):=List.Pairwise.sublist (List.drop_sublist j l) hA
   rw[dV (aj.1 e).1,(aj.1 e).2] at hA'
   have:=(bG.1 hA').1 x hx
   omega
theorem take_lt {l:List (Int×Int)} {a:Int} {j:Nat} {y:Int×Int} (h: ∀x∈l.take j,x.1<a) (hy:l[j]?=some y) (hlt:y.1<a): ∀x∈l.take (j+1),x.1<a:=by
 intro x hx
 rw[bH,hy] at hx
 rcases aG.1 hx with q|q
 ·exact h x q
 ·simp at q;rw[q];exact hlt
def oI (k:Int) (l:List (Int×Int)):Option (Nat×(Int×Int))→Prop:=fun
 |none=>∀x∈l,x.2<k
 |some (i,x)=>l[i]?=some x∧jE k l=some x
theorem yC: ∀(r:List (Int×Int)) (x y:Int×Int),tC x (r++[y])=if y.2<(tC x r).2 then y else tC x r
 |[],x,y=>rfl
 |z::r,x,y=>by simp only[List.cons_append,tC];exact yC r _ y
theorem Ed (k:Int) (l:List (Int×Int)) (y:Int×Int):vY k (l++[y])=if y.2<k then vY k l else vY k l++[y]:=by
 unfold vY
 rw[gq]
 by_cases h:y.2<k<;>simp[h]
theorem wH (k:Int) (l:List (Int×Int)) (y:Int×Int):jE k (l++[y])=if y.2<k then jE k l else match jE k l with|none=>some y|some x=>if y.2<x.2 then some y else some x:=by
 unfold jE
 rw[Ed]
 by_cases h:y.2<k
 ·rw[if_pos h,if_pos h]
 ·rw[if_neg h,if_neg h]
  cases e:vY k l with
  |nil=>simp[tC]
  |cons x r=>
   simp only[List.cons_append,yC]
   split<;>rfl
theorem Cu (k:Int):oI k [] none:=fun _ h=>by cases h
theorem uq {k:Int} {l:List (Int×Int)} {b:Option (Nat×(Int×Int))} {y:Int×Int} (h:oI k l b) (hy:y.2<k∨∃i x,b=some (i,x)∧x.2≤y.2):oI k (l++[y]) b:=by
 match b,h with
 |none,h=>
  rcases hy with hy|⟨i,x,e,_⟩
  ·intro x hx
   rcases aG.1 hx with q|q
   ·exact h x q
   ·simp at q;rw[q];exact hy
  ·cases e
 |some (i,x),⟨h1,h2⟩=>
  refine⟨?_,?_⟩
  ·rw[bE (aj.1 h1).1];exact h1
  ·rw[wH,h2]
   rcases hy with hy|⟨i',x',e,hy⟩
   ·rw[if_pos hy]
   ·obtain⟨rfl,rfl⟩:i=i'∧x=x':=by simpa using e
    split
    ·rfl
    ·simp only
     rw[if_neg om]
theorem uw {k:Int} {l:List (Int×Int)} {b:Option (Nat×(Int×Int))} {y:Int×Int} (h:oI k l b) (hk:k≤y.2) (hy: ∀i x,b=some (i,x)→y.2<x.2):oI k (l++[y]) (some (l.length,y)):=by
 refine⟨sI,?_⟩
 rw[wH,if_neg om]
 match b,h with
 |none,h=>
  have:jE k l=none:=by
   unfold jE
   have:vY k l=[]:=by
    refine List.filter_eq_nil_iff.2 fun x hx=> ?_
    have:=h x hx
    simp;omega
   rw[this]
  rw[this]
 |some (i,x),⟨_,h2⟩=>
  rw[h2]
  simp only
  rw[if_pos (hy i x rfl)]
theorem zZ {k:Int} {l:List (Int×Int)} (h:oI k l none):jE k l=none:=by
 unfold jE
 have:vY k l=[]:=by
  refine List.filter_eq_nil_iff.2 fun x hx=> ?_
  have:=h x hx
  simp;omega
 rw[this]
end
section
structure TS (n:Int) (F T:List (Int×Int)) (i k:Nat) (at':Int):Prop where
 i1:i≤F.length
 k1:k≤T.length
 a0:0≤at'
 a1:at'≤n
 fb: ∀x∈F.take i,x.1+sz x.2≤at'
 fa: ∀x∈F.drop i,at'≤x.1
 tb: ∀x∈T.take k,x.1+sz x.2≤at'
 ta: ∀x∈T.drop k,at'≤x.1
end
end Go.Proofs.YtdcbhlcbiokbeaaGreatDoor
