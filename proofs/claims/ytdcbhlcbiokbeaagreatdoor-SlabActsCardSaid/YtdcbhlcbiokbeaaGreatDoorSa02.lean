/- Lemmas and contracts for the claim's last text: Lay, Plain. -/
import Derived.Test.YtdcbhlcbiokbeaaGreatDoorSa01
set_option linter.unusedSimpArgs false
set_option linter.unusedVariables false
set_option maxHeartbeats 16000000
set_option maxRecDepth 100000
namespace Go.Proofs.YtdcbhlcbiokbeaaGreatDoor
section
open Go.Shelf
def Tryz.keysA_ren:Go.Shelf.Ren:=⟨fun|7=>255|10=>276|n=>n,fun|23=>270|26=>3|3=>3|28=>306|0=>0|27=>305|33=>68|4=>4|n=>n,fun|n=>n⟩
theorem Tryz.keysA:Go.Proofs.SlLaysZI.n7 Tryz.prog Tryz.keysA_ren:={
 mixed:=kR
 f7:=⟨Tryz.f255.name,by decide,Tryz.func255.trans (congrArg some kR)⟩
 f10:=⟨Tryz.f276.name,by decide,Tryz.func276.trans (congrArg some kR)⟩
 t0:=Tryz.underlying0
 a0:=Tryz.isAgg0
 z0:=Tryz.sizeOf0
 v0:=Tryz.zeroValue0
 t4:=fC
 a4:=Tryz.isAgg4
 z4:=Tryz.sizeOf4
 v4:=Tryz.zeroValue4
 t23:=dP
 a23:=Tryz.isAgg270
 z23:=Tryz.sizeOf270
 v23:=Tryz.zeroValue270
 t26:=aS
 a26:=eG
 z26:=dZ
 v26:=gq
 t27:=Tryz.underlying305
 a27:=Tryz.isAgg305
 z27:=Tryz.sizeOf305
 v27:=Tryz.zeroValue305
 t28:=Tryz.underlying306
 a28:=Tryz.isAgg306
 z28:=Tryz.sizeOf306
 v28:=Tryz.zeroValue306
 t33:=Tryz.underlying68
 a33:=Tryz.isAgg68
 z33:=Tryz.sizeOf68
 v33:=Tryz.zeroValue68}
def Tryz.sortedA_ren:Go.Shelf.Ren:=⟨fun|6=>184|8=>239|9=>240|11=>267|13=>269|12=>268|23=>289|24=>290|14=>280|15=>281|16=>282|17=>283|18=>284|19=>285|20=>286|21=>287|22=>288|25=>293|26=>294|27=>295|28=>296|29=>297|30=>247|31=>299|n=>n,fun|26=>3|28=>306|24=>22|0=>0|3=>3|37=>379|48=>422|50=>424|4=>4|40=>416|39=>415|45=>340|5=>5|9=>9|51=>426|55=>430|57=>432|58=>176|33=>68|n=>n,fun|n=>n⟩
theorem Tryz.sortedA:Go.Proofs.SlLaysZI.n6 Tryz.prog Tryz.sortedA_ren:={
 mixed:=kR
 f6:=⟨Tryz.f184.name,by decide,Tryz.func184.trans (congrArg some kR)⟩
 f8:=⟨Tryz.f239.name,by decide,Tryz.func239.trans (congrArg some kR)⟩
 f11:=⟨Tryz.f267.name,by decide,Tryz.func267.trans (congrArg some kR)⟩
 t0:=Tryz.underlying0
 a0:=Tryz.isAgg0
 z0:=Tryz.sizeOf0
 v0:=Tryz.zeroValue0
 t24:=eZ
 a24:=Tryz.isAgg22
 z24:=Tryz.sizeOf22
 v24:=Tryz.zeroValue22
 t26:=aS
 a26:=eG
 z26:=dZ
 v26:=gq
 t28:=Tryz.underlying306
 a28:=Tryz.isAgg306
 z28:=Tryz.sizeOf306
 v28:=Tryz.zeroValue306
 i26:=by kernel_rfl}
def Tryz.sortA_ren:Go.Shelf.Ren:=⟨fun|5=>240|8=>269|7=>268|19=>289|20=>290|10=>280|11=>281|12=>282|13=>283|14=>284|15=>285|16=>286|17=>287|18=>288|30=>293|31=>294|32=>295|33=>296|34=>297|35=>247|40=>299|n=>n,fun|23=>22|25=>3|3=>3|32=>379|22=>22|0=>0|44=>422|46=>424|4=>4|36=>416|35=>415|41=>340|5=>5|9=>9|53=>426|57=>430|63=>432|64=>176|n=>n,fun|n=>n⟩
theorem Tryz.sortA:Go.Proofs.SlLaysM.n5 Tryz.prog Tryz.sortA_ren:={
 mixed:=kR
 f5:=⟨Tryz.f240.name,by decide,Tryz.func240.trans (congrArg some kR)⟩
 f7:=⟨Tryz.f268.name,by decide,Tryz.func268.trans (congrArg some kR)⟩
 f8:=Tryz.func269.trans (congrArg some kR)
 f10:=⟨Tryz.f280.name,by decide,Tryz.func280.trans (congrArg some kR)⟩
 f11:=⟨Tryz.f281.name,by decide,Tryz.func281.trans (congrArg some kR)⟩
 f12:=⟨Tryz.f282.name,by decide,Tryz.func282.trans (congrArg some kR)⟩
 f13:=⟨Tryz.f283.name,by decide,Tryz.func283.trans (congrArg some kR)⟩
 f14:=⟨Tryz.f284.name,by decide,Tryz.func284.trans (congrArg some kR)⟩
 f15:=⟨Tryz.f285.name,by decide,Tryz.func285.trans (congrArg some kR)⟩
 f16:=⟨Tryz.f286.name,by decide,Tryz.func286.trans (congrArg some kR)⟩
 f17:=⟨Tryz.f287.name,by decide,Tryz.func287.trans (congrArg some kR)⟩
 f18:=⟨Tryz.f288.name,by decide,Tryz.func288.trans (congrArg some kR)⟩
 f19:=Tryz.func289.trans (congrArg some kR)
 f20:=Tryz.func290.trans (congrArg some kR)
 f30:=⟨Tryz.f293.name,by decide,Tryz.func293.trans (congrArg some kR)⟩
 f31:=Tryz.func294.trans (congrArg some kR)
 f32:=Tryz.func295.trans (congrArg some kR)
 f33:=⟨Tryz.f296.name,by decide,Tryz.func296.trans (congrArg some kR)⟩
 f34:=⟨Tryz.f297.name,by decide,Tryz.func297.trans (congrArg some kR)⟩
 f35:=⟨Tryz.f247.name,by decide,Tryz.func247.trans (congrArg some kR)⟩
 f40:=⟨Tryz.f299.name,by decide,Tryz.func299.trans (congrArg some kR)⟩
 t0:=Tryz.underlying0
 a0:=Tryz.isAgg0
 z0:=Tryz.sizeOf0
 v0:=Tryz.zeroValue0
 t3:=aS
 a3:=eG
 z3:=dZ
 v3:=gq
 t4:=fC
 a4:=Tryz.isAgg4
 z4:=Tryz.sizeOf4
 v4:=Tryz.zeroValue4
 t5:=Tryz.underlying5
 a5:=Tryz.isAgg5
 z5:=Tryz.sizeOf5
 v5:=Tryz.zeroValue5
 t9:=Tryz.underlying9
 a9:=Tryz.isAgg9
 z9:=Tryz.sizeOf9
 v9:=Tryz.zeroValue9
 t22:=eZ
 a22:=Tryz.isAgg22
 z22:=Tryz.sizeOf22
 v22:=Tryz.zeroValue22
 t23:=eZ
 a23:=Tryz.isAgg22
 z23:=Tryz.sizeOf22
 v23:=Tryz.zeroValue22
 t25:=aS
 a25:=eG
 z25:=dZ
 v25:=gq
 t32:=Tryz.underlying379
 a32:=Tryz.isAgg379
 z32:=Tryz.sizeOf379
 v32:=Tryz.zeroValue379
 t35:=Tryz.underlying415
 a35:=Tryz.isAgg415
 z35:=Tryz.sizeOf415
 v35:=Tryz.zeroValue415
 t36:=Tryz.underlying416
 a36:=Tryz.isAgg416
 z36:=Tryz.sizeOf416
 v36:=Tryz.zeroValue416
 t41:=Tryz.underlying340
 a41:=Tryz.isAgg340
 z41:=Tryz.sizeOf340
 v41:=Tryz.zeroValue340
 t44:=Tryz.underlying422
 a44:=Tryz.isAgg422
 z44:=Tryz.sizeOf422
 v44:=Tryz.zeroValue422
 t46:=Tryz.underlying424
 a46:=Tryz.isAgg424
 z46:=Tryz.sizeOf424
 v46:=Tryz.zeroValue424
 t53:=Tryz.underlying426
 a53:=Tryz.isAgg426
 z53:=Tryz.sizeOf426
 v53:=Tryz.zeroValue426
 t57:=Tryz.underlying430
 a57:=Tryz.isAgg430
 z57:=Tryz.sizeOf430
 v57:=Tryz.zeroValue430
 t63:=Tryz.underlying432
 a63:=Tryz.isAgg432
 z63:=Tryz.sizeOf432
 v63:=Tryz.zeroValue432
 t64:=Tryz.underlying176
 a64:=Tryz.isAgg176
 z64:=Tryz.sizeOf176
 v64:=Tryz.zeroValue176}
def Tryz.cloneA_ren:Go.Shelf.Ren:=⟨fun|5=>262|7=>277|n=>n,fun|23=>270|25=>3|3=>3|4=>4|20=>20|n=>n,fun|n=>n⟩
theorem Tryz.cloneA:Go.Proofs.SlLaysW.n5 Tryz.prog Tryz.cloneA_ren:={
 mixed:=kR
 f5:=⟨Tryz.f262.name,by decide,Tryz.func262.trans (congrArg some kR)⟩
 f7:=Tryz.func277.trans (congrArg some kR)
 t4:=fC
 a4:=Tryz.isAgg4
 z4:=Tryz.sizeOf4
 v4:=Tryz.zeroValue4
 t20:=Tryz.underlying20
 a20:=Tryz.isAgg20
 z20:=Tryz.sizeOf20
 v20:=Tryz.zeroValue20
 t23:=dP
 a23:=Tryz.isAgg270
 z23:=Tryz.sizeOf270
 v23:=Tryz.zeroValue270}
end
section
open Go.RowKit
def sz (k:Int):Int:=2 ^ k.toNat
theorem qK {k:Int} (h0:0≤k) (h6:k≤6):k=0∨k=1∨k=2∨k=3∨k=4∨k=5∨k=6:=om
theorem Ad {k:Int} (h0:0≤k) (h6:k≤7):k=0∨k=1∨k=2∨k=3∨k=4∨k=5∨k=6∨k=7:=om
theorem sz0:sz 0=1:=rfl
theorem sz1:sz 1=2:=rfl
theorem sz2:sz 2=4:=rfl
theorem sz3:sz 3=8:=rfl
theorem sz4:sz 4=16:=rfl
theorem sz5:sz 5=32:=rfl
theorem sz6:sz 6=64:=rfl
theorem nK {k:Int} (h0:0≤k) (h6:k≤6):1≤sz k∧sz k≤64:=by
 rcases qK h0 h6 with rfl|rfl|rfl|rfl|rfl|rfl|rfl<;>decide
theorem BJ {k:Int} (h0:0≤k) (h6:k≤7):1≤sz k∧sz k≤128:=by
 rcases Ad h0 h6 with rfl|rfl|rfl|rfl|rfl|rfl|rfl|rfl<;>decide
theorem mD {k:Int} (h0:0≤k) (h6:k≤6):sz (k+1)=2*sz k:=by
 rcases qK h0 h6 with rfl|rfl|rfl|rfl|rfl|rfl|rfl<;>decide
theorem lI {k:Int} (h0:0≤k) (h6:k≤6):wrap64 (2 ^ k.toNat)=sz k:=by
 unfold wrap64
 rcases qK h0 h6 with rfl|rfl|rfl|rfl|rfl|rfl|rfl<;>decide
theorem Ae: ∀a:Fin 512,∀k:Fin 7,
 bits .and .i64 ((a.val:Nat):Int) (((2 ^ k.val:Nat):Int)-1)=(((a.val % 2 ^ k.val:Nat)):Int)
 ∧bits .xor .i64 ((a.val:Nat):Int) ((2 ^ k.val:Nat):Int)=(if a.val % (2*2 ^ k.val)<2 ^ k.val then((a.val:Nat):Int)+((2 ^ k.val:Nat):Int) else((a.val:Nat):Int)-((2 ^ k.val:Nat):Int))
 ∧bits .andNot .i64 ((a.val:Nat):Int) ((2 ^ k.val:Nat):Int)=(if a.val % (2*2 ^ k.val)<2 ^ k.val then((a.val:Nat):Int) else((a.val:Nat):Int)-((2 ^ k.val:Nat):Int)):=by
 decide+kernel
theorem xI {a k:Int} (h0:0≤a) (h1:a<512) (k0:0≤k) (k6:k≤6):
 bits .and .i64 a (sz k-1)=a % sz k
 ∧bits .xor .i64 a (sz k)=(if a % (2*sz k)<sz k then a+sz k else a-sz k)
 ∧bits .andNot .i64 a (sz k)=(if a % (2*sz k)<sz k then a else a-sz k):=by
 obtain⟨n,rfl⟩:=Int.eq_ofNat_of_zero_le h0
 obtain⟨m,rfl⟩:=Int.eq_ofNat_of_zero_le k0
 have t:=Ae ⟨n,om⟩ ⟨m,om⟩
 have e:sz (m:Int)=((2 ^ m:Nat):Int):=by simp[sz]
 have e2:(2:Int)*((2 ^ m:Nat):Int)=((2*2 ^ m:Nat):Int):=sI
 rw[e,e2]
 simp only[←Int.natCast_emod,Int.ofNat_lt] at t ⊢
 exact t
theorem and_sz {a k:Int} (h0:0≤a) (h1:a<512) (k0:0≤k) (k6:k≤6):bits .and .i64 a (sz k-1)=a % sz k:=(xI h0 h1 k0 k6).1
def iM (a k:Int):Nat:=if a<0∨256≤a∨k<0∨6<k then 2 else if a % sz k=0 then 0 else 3
def checkE (a k n:Int):Nat:=if n<1∨256<n∨k<0∨6<k∨a<0∨n-sz k<a then 2 else if a % sz k=0 then 0 else 3
def kE (a k:Int):Int:=if a % (2*sz k)<sz k then a else a-sz k
def j3 (a k:Int):Int:=if a % (2*sz k)<sz k then a+sz k else a-sz k
theorem xor_sz {a k:Int} (h0:0≤a) (h1:a<512) (k0:0≤k) (k6:k≤6):bits .xor .i64 a (sz k)=j3 a k:=(xI h0 h1 k0 k6).2.1
theorem BK {a k:Int} (h0:0≤a) (h1:a<512) (k0:0≤k) (k6:k≤6):bits .andNot .i64 a (sz k)=kE a k:=(xI h0 h1 k0 k6).2.2
theorem pW (a k:Int):(iM a k=2∧(a<0∨256≤a∨k<0∨6<k))∨((0≤a∧a≤255∧0≤k∧k≤6)∧((iM a k=3∧a % sz k≠0)∨(iM a k=0∧a % sz k=0))):=by
 unfold iM
 by_cases h:a<0∨256≤a∨k<0∨6<k
 ·exact .inl ⟨by rw[if_pos h],h⟩
 ·refine .inr ⟨om,?_⟩
  by_cases h2:a % sz k=0
  ·exact .inr ⟨by rw[if_neg h,if_pos h2],h2⟩
  ·exact .inl ⟨by rw[if_neg h,if_neg h2],h2⟩
def upE (a k:Int):Nat:=if iM a k=0 then(if k=6 then 4 else 0) else iM a k
def Af (a k:Int):Nat:=if iM a k=0 then(if k=0 then 4 else 0) else iM a k
theorem jT {a k:Int} (h:iM a k=0):0≤a∧a≤255∧0≤k∧k≤6∧a % sz k=0:=by
 rcases pW a k with⟨h2,_⟩|⟨⟨a0,a1,k0,k6⟩,⟨h2,_⟩|⟨_,h2⟩⟩
 ·omega
 ·omega
 ·exact⟨a0,a1,k0,k6,h2⟩
theorem yM {a k:Int} (h:upE a k=0):iM a k=0∧k≠6:=by
 unfold upE at h
 by_cases h1:iM a k=0
 ·rw[if_pos h1] at h
  exact⟨h1,fun e=>by rw[if_pos e] at h;omega⟩
 ·rw[if_neg h1] at h;omega
theorem tu {a k:Int} (h:Af a k=0):iM a k=0∧k≠0:=by
 unfold Af at h
 by_cases h1:iM a k=0
 ·rw[if_pos h1] at h
  exact⟨h1,fun e=>by rw[if_pos e] at h;omega⟩
 ·rw[if_neg h1] at h;omega
theorem BL {a k:Int} {c:Nat} (h:upE a k=c+1):iM a k=c+1∨(iM a k=0∧k=6∧c=3):=by
 unfold upE at h
 by_cases h1:iM a k=0
 ·rw[if_pos h1] at h
  by_cases e:k=6
  ·rw[if_pos e] at h;exact .inr ⟨h1,e,om⟩
  ·rw[if_neg e] at h;omega
 ·rw[if_neg h1] at h;exact .inl h
theorem vQ {a k:Int} (a0:0≤a) (a1:a≤255) (k0:0≤k) (k6:k≤6) (h:a % sz k=0):iM a k=0:=by
 unfold iM
 rw[if_neg om,if_pos h]
theorem yN {a k:Int} (h:iM a k=0) (h6:k≠6):upE a k=0:=by unfold upE;rw[if_pos h,if_neg h6]
theorem downE_mk {a k:Int} (h:iM a k=0) (h6:k≠0):Af a k=0:=by unfold Af;rw[if_pos h,if_neg h6]
theorem kin {a k:Int} (a0:0≤a) (a1:a≤255) (k0:0≤k) (k5:k≤5) (ha:a % sz k=0):
 (0≤j3 a k∧j3 a k≤255∧j3 a k % sz k=0)∧j3 (j3 a k) k=a∧kE (j3 a k) k=kE a k∧(0≤kE a k∧kE a k≤255∧kE a k % sz (k+1)=0)∧
 ((kE a k=a∧j3 a k=kE a k+sz k)∨(kE a k=j3 a k∧a=kE a k+sz k))∧kE a k=a / (2*sz k)*(2*sz k)∧(j3 a k=if kE a k=a then a+sz k else kE a k):=by
 have e:k=0∨k=1∨k=2∨k=3∨k=4∨k=5:=om
 rcases e with rfl|rfl|rfl|rfl|rfl|rfl<;>simp only[j3,kE,sz0,sz1,sz2,sz3,sz4,sz5,sz6,show(0:Int)+1=1 from rfl,show(1:Int)+1=2 from rfl,show(2:Int)+1=3 from rfl,show(3:Int)+1=4 from rfl,show(4:Int)+1=5 from rfl,show(5:Int)+1=6 from rfl] at* <;>(refine⟨⟨?_,?_,?_⟩,?_,?_,⟨?_,?_,?_⟩,?_,?_,?_⟩<;>omega)
theorem kin_p {a k:Int} (a0:0≤a) (a1:a≤255) (k0:0≤k) (k5:k≤5) (ha:a % sz k=0):0≤kE a k∧kE a k≤255:=by
 obtain⟨_,_,_,⟨p0,p1,_⟩,_⟩:=kin a0 a1 k0 k5 ha
 exact⟨p0,p1⟩
theorem kin_q {a k:Int} (a0:0≤a) (a1:a≤255) (k0:0≤k) (k5:k≤5) (ha:a % sz k=0):a / sz (k+1)*sz (k+1)=kE a k:=by
 obtain⟨_,_,_,_,_,hp,_⟩:=kin a0 a1 k0 k5 ha
 rw[mD k0 om];exact hp.symm
theorem kin_b {a k:Int} (a0:0≤a) (a1:a≤255) (k0:0≤k) (k5:k≤5) (ha:a % sz k=0):(kE a k=a∧j3 a k=a+sz k)∨(kE a k≠a∧j3 a k=kE a k):=by
 obtain⟨_,_,_,_,_,_,hb⟩:=kin a0 a1 k0 k5 ha
 by_cases h:kE a k=a
 ·rw[if_pos h] at hb;exact .inl ⟨h,hb⟩
 ·rw[if_neg h] at hb;exact .inr ⟨h,hb⟩
def ordI (n:Int):Int:=if n≤1 then 0 else if n≤2 then 1 else if n≤4 then 2 else if n≤8 then 3 else if n≤16 then 4 else if n≤32 then 5 else 6
theorem sz_le64 {k:Int} (h0:0≤k) (h6:k≤6):sz k≤64:=(nK h0 h6).2
end
section
open Go.RowKit
def nD (a n:Int):Int:=if a % 64=0∧64≤n then 6 else if a % 32=0∧32≤n then 5 else if a % 16=0∧16≤n then 4 else if a % 8=0∧8≤n then 3 else if a % 4=0∧4≤n then 2 else if a % 2=0∧2≤n then 1 else 0
theorem mF (a n:Int):0≤nD a n∧nD a n≤6:=by
 unfold nD
 (repeat' split)<;>omega
theorem qL {a n:Int} (h:1≤n):a % sz (nD a n)=0∧sz (nD a n)≤n:=by
 unfold nD
 (repeat' split)<;>simp only[sz0,sz1,sz2,sz3,sz4,sz5,sz6]<;>omega
theorem uK {a n k:Int} (k6:k≤6) (h:nD a n<k): ¬(a % sz k=0∧sz k≤n):=by
 have h0:=(mF a n).1
 have e:k=1∨k=2∨k=3∨k=4∨k=5∨k=6:=om
 unfold nD at h
 rcases e with rfl|rfl|rfl|rfl|rfl|rfl<;>simp only[sz1,sz2,sz3,sz4,sz5,sz6]<;>(repeat' split at h)<;>omega
theorem covO_min {a n k:Int} (k0:0≤k) (h:k≤nD a n) (hn:1≤n):a % sz k=0∧sz k≤n:=by
 have h6:=(mF a n).2
 have e:k=0∨k=1∨k=2∨k=3∨k=4∨k=5∨k=6:=om
 unfold nD at h
 rcases e with rfl|rfl|rfl|rfl|rfl|rfl|rfl<;>simp only[sz0,sz1,sz2,sz3,sz4,sz5,sz6]<;>(repeat' split at h)<;>omega
def covF:Nat→Int→Int→List (Int×Int)
 |0,_,_=>[]
 |f+1,a,n=>if n≤0 then[] else(a,nD a n)::covF f (a+sz (nD a n)) (n-sz (nD a n))
def lX (a n:Int):List (Int×Int):=covF n.toNat a n
theorem qM: ∀(f g:Nat) (a n:Int),n.toNat≤f→n.toNat≤g→covF f a n=covF g a n
 |0,0,_,_,_,_=>rfl
 |0,g+1,a,n,hf,_=>by
  have:n≤0:=om
  simp[covF,this]
 |f+1,0,a,n,_,hg=>by
  have:n≤0:=om
  simp[covF,this]
 |f+1,g+1,a,n,hf,hg=>by
  unfold covF
  by_cases h:n≤0
  ·rw[if_pos h,if_pos h]
  ·rw[if_neg h,if_neg h]
   have hb:=mF a n
   have hs:=(nK hb.1 hb.2).1
   rw[qM f g _ _ om om]
theorem jE {a n:Int} (h:n≤0):lX a n=[]:=by
 unfold lX
 have:n.toNat=0:=om
 rw[this];rfl
theorem mG {a n:Int} (h:1≤n):lX a n=(a,nD a n)::lX (a+sz (nD a n)) (n-sz (nD a n)):=by
 have hb:=mF a n
 have hs:=(nK hb.1 hb.2).1
 unfold lX
 obtain⟨f,hf⟩: ∃f,n.toNat=f+1:=⟨n.toNat-1,om⟩
 rw[hf]
 show(if n≤0 then[] else _)=_
 rw[if_neg om]
 rw[qM f (n-sz (nD a n)).toNat _ _ om (aH _)]
theorem nL: ∀(f:Nat) (a n:Int),n.toNat≤f→((lX a n).length:Int)≤n.toNat
 |0,a,n,h=>by rw[jE om];exact Int.natCast_nonneg _
 |f+1,a,n,h=>by
  by_cases h0:n≤0
  ·rw[jE h0];exact Int.natCast_nonneg _
  ·have hb:=mF a n
   have hs:=(nK hb.1 hb.2).1
   rw[mG om]
   have:=nL f (a+sz (nD a n)) (n-sz (nD a n)) om
   simp only[dG]
   omega
def Chain (e:Int):Int→List (Int×Int)→Prop
 |a,[]=>a=e
 |a,b::r=>b.1=a∧0≤b.2∧b.2≤6∧a % sz b.2=0∧a+sz b.2≤e∧Chain e (a+sz b.2) r
theorem kX: ∀(f:Nat) (a n:Int),n.toNat≤f→0≤n→Chain (a+n) a (lX a n)
 |0,a,n,h,hn=>by
  have:n=0:=om
  subst this
  rw[jE om]
  simp[Chain]
 |f+1,a,n,h,hn=>by
  by_cases h0:n=0
  ·subst h0
   rw[jE om]
   simp[Chain]
  ·have hb:=mF a n
   have hs:=(nK hb.1 hb.2).1
   obtain⟨f1,f2⟩:=qL (a:=a) (n:=n) om
   rw[mG om]
   have:=kX f (a+sz (nD a n)) (n-sz (nD a n)) om om
   refine⟨rfl,hb.1,hb.2,f1,(show a+sz (nD a n)≤a+n by omega),?_⟩
   rwa [show a+sz (nD a n)+(n-sz (nD a n))=a+n from om] at this
end
section
def Asc (l:List (Int×Int)):Prop:=l.Pairwise fun p q=>p.1<q.1
def jK (l:List (Int×Int)) (a:Int):Option Int:=(l.find? fun p=>p.1==a).map (·.2)
def iV (a:Int) (l:List (Int×Int)):List (Int×Int):=l.filter fun p=>p.1 !=a
def ji (a k:Int):List (Int×Int)→List (Int×Int)
 |[]=>[(a,k)]
 |p::r=>if a<p.1 then(a,k)::p::r else if a=p.1 then(a,k)::r else p::ji a k r
theorem Asc.del {l:List (Int×Int)} (h:Asc l) (a:Int):Asc (iV a l):=List.Pairwise.filter _ h
theorem qA {l:List (Int×Int)} {a:Int} {p:Int×Int}:p∈iV a l↔p∈l∧p.1≠a:=by simp[iV]
theorem uL: ∀{l:List (Int×Int)} {a k:Int} {p:Int×Int},p∈ji a k l→p=(a,k)∨p∈l
 |[],a,k,p,h=>by simpa[ji] using h
 |q::r,a,k,p,h=>by
  unfold ji at h
  split at h
  ·simpa using h
  ·split at h
   ·rcases aC.1 h with h|h
    ·exact .inl h
    ·exact .inr (aj _ h)
   ·rcases aC.1 h with h|h
    ·exact .inr (by simp[h])
    ·rcases uL h with h|h
     ·exact .inl h
     ·exact .inr (aj _ h)
theorem Asc.put: ∀{l:List (Int×Int)},Asc l→∀a k,Asc (ji a k l)
 |[],_,a,k=>by simp[ji,Asc]
 |q::r,h,a,k=>by
  obtain⟨h1,h2⟩:=aY.1 h
  unfold ji
  split
  ·refine aY.2 ⟨fun p hp=> ?_,h⟩
   rcases aC.1 hp with rfl|hp
   ·assumption
   ·have:=h1 p hp;show a<p.1;omega
  ·split
   ·rename_i e
    exact aY.2 ⟨fun p hp=>by have:=h1 p hp;show a<p.1;omega,h2⟩
   ·refine aY.2 ⟨fun p hp=> ?_,Asc.put h2 a k⟩
    rcases uL hp with rfl|hp
    ·show q.1<a;omega
    ·exact h1 p hp
theorem iN (p:Int×Int) (l:List (Int×Int)) (a:Int):jK (p::l) a=if p.1=a then some p.2 else jK l a:=by
 unfold jK
 by_cases h:p.1=a<;>simp[h]
theorem j5: ∀{l:List (Int×Int)} {a k:Int},jK l a=some k→(a,k)∈l
 |[],a,k,h=>by simp[jK] at h
 |p::r,a,k,h=>by
  rw[iN] at h
  split at h
  ·rename_i e
   have:p.2=k:=aI h
   have:p=(a,k):=by rw[←e,←this]
   simp[this]
  ·exact aj _ (j5 h)
theorem ni: ∀{l:List (Int×Int)} {a k:Int},Asc l→(a,k)∈l→jK l a=some k
 |[],a,k,_,h=>by simp at h
 |p::r,a,k,hA,h=>by
  obtain⟨h1,h2⟩:=aY.1 hA
  rw[iN]
  rcases aC.1 h with rfl|h
  ·simp
  ·rw[if_neg,ni h2 h]
   have:=h1 _ h
   simp at this
   omega
theorem qB: ∀{l:List (Int×Int)} (a k b:Int),Asc l→jK (ji a k l) b=if a=b then some k else jK l b
 |[],a,k,b,_=>by rw[ji,iN]
 |p::r,a,k,b,h=>by
  obtain⟨h1,h2⟩:=aY.1 h
  unfold ji
  split
  ·rw[iN]
  ·split
   ·rename_i e
    rw[iN,iN]
    by_cases hb:a=b
    ·simp[hb]
    ·rw[if_neg (by simpa using hb),if_neg (by simpa using hb),if_neg om]
   ·rw[iN,iN,qB a k b h2]
    by_cases hb:p.1=b
    ·rw[if_pos hb,if_pos hb,if_neg om]
    ·rw[if_neg hb,if_neg hb]
theorem getL_del (l:List (Int×Int)) (a b:Int):jK (iV a l) b=if a=b then none else jK l b:=by
 induction l with
 |nil=>simp[iV,jK]
 |cons p r ih=>
  have e:iV a (p::r)=if p.1=a then iV a r else p::iV a r:=by
   by_cases h:p.1=a<;>simp[iV,h]
  rw[e,iN]
  by_cases h:p.1=a
  ·rw[if_pos h,ih]
   by_cases hb:a=b
   ·simp[hb]
   ·rw[if_neg hb,if_neg hb,if_neg om]
  ·rw[if_neg h,iN,ih]
   by_cases hb:p.1=b
   ·rw[if_pos hb,if_pos hb,if_neg om]
   ·rw[if_neg hb,if_neg hb]
end
section
def Blk (x:Nat×Nat):Prop:=x.2≤6∧x.1 % 2 ^ x.2=0
def Inn (p:Nat) (x:Nat×Nat):Prop:=x.1≤p∧p<x.1+2 ^ x.2
instance (p:Nat) (x:Nat×Nat):Decidable (Inn p x):=inferInstanceAs (Decidable (_∧_))
def budN (x:Nat×Nat):Nat:=if x.1 / 2 ^ x.2 % 2=0 then x.1+2 ^ x.2 else x.1-2 ^ x.2
theorem BM {k:Nat} (h:k≤6):(k=0∧2 ^ k=1)∨(k=1∧2 ^ k=2)∨(k=2∧2 ^ k=4)∨(k=3∧2 ^ k=8)∨(k=4∧2 ^ k=16)∨(k=5∧2 ^ k=32)∨(k=6∧2 ^ k=64):=by
 rcases k with _|_|_|_|_|_|_|k
 all_goals first|omega|simp
structure xJ (n:Nat) (L:List (Nat×Nat)):Prop where
 blk: ∀x∈L,Blk x
 cov: ∀p,p<n→∃x∈L,Inn p x
 one: ∀x∈L,∀y∈L,∀p,Inn p x→Inn p y→x=y
 bound: ∀x∈L,x.1+2 ^ x.2≤n
def Apart (L:List (Nat×Nat)):Prop:=∀x∈L,x.2<6→(budN x,x.2)∉L
end
section
theorem yO {a k:Nat} (h:Blk (a,k+1)):Blk (a,k)∧Blk (a+2 ^ k,k)∧∀p,Inn p (a,k+1)↔(Inn p (a,k)∨Inn p (a+2 ^ k,k)):=by
 obtain⟨hk,ha⟩:=h
 unfold Blk Inn
 simp only at*
 rcases BM (show k≤6 by omega) with⟨rfl,e⟩|⟨rfl,e⟩|⟨rfl,e⟩|⟨rfl,e⟩|⟨rfl,e⟩|⟨rfl,e⟩|⟨rfl,e⟩
 all_goals first
  |omega
  |(simp only[Nat.reduceAdd,Nat.reducePow] at*
    refine⟨⟨om,om⟩,⟨om,om⟩,fun p=>om⟩)
theorem tC {a k:Nat} (p:Nat):Inn p (a,k)→¬Inn p (a+2 ^ k,k):=by
 unfold Inn
 simp only
 omega
theorem xJ.split {n:Nat} {L M:List (Nat×Nat)} (h:xJ n L) {a k:Nat} (hx:(a,k+1)∈L)
 (hM: ∀z,z∈M↔(z∈L∧z≠(a,k+1))∨z=(a,k)∨z=(a+2 ^ k,k)):xJ n M:=by
 obtain⟨b1,b2,hp⟩:=yO (h.blk _ hx)
 have hb:=h.bound _ hx
 have e2:2 ^ (k+1)=2 ^ k+2 ^ k:=by rw[Nat.pow_succ];omega
 simp only[e2] at hb
 have hpos:0<2 ^ k:=Nat.pos_of_ne_zero sI
 refine⟨fun z hz=> ?_,fun p hpn=> ?_,fun x hx' y hy' p px py=> ?_,fun z hz=> ?_⟩
 ·rcases(hM z).1 hz with⟨h1,_⟩|rfl|rfl
  ·exact h.blk z h1
  ·exact b1
  ·exact b2
 ·obtain⟨z,hz,pz⟩:=h.cov p hpn
  by_cases e:z=(a,k+1)
  ·subst e
   rcases(hp p).1 pz with q|q
   ·exact⟨_,(hM _).2 (.inr (.inl rfl)),q⟩
   ·exact⟨_,(hM _).2 (.inr (.inr rfl)),q⟩
  ·exact⟨z,(hM z).2 (.inl ⟨hz,e⟩),pz⟩
 ·rcases(hM x).1 hx' with⟨h1,n1⟩|rfl|rfl<;>rcases(hM y).1 hy' with⟨h2,n2⟩|rfl|rfl
  ·exact h.one x h1 y h2 p px py
  ·exact absurd (h.one x h1 _ hx p px ((hp p).2 (.inl py))) n1
  ·exact absurd (h.one x h1 _ hx p px ((hp p).2 (.inr py))) n1
  ·exact absurd (h.one y h2 _ hx p py ((hp p).2 (.inl px))) n2
  ·rfl
  ·exact absurd py (tC p px)
  ·exact absurd (h.one y h2 _ hx p py ((hp p).2 (.inr px))) n2
  ·exact absurd px (tC p py)
  ·rfl
 ·rcases(hM z).1 hz with⟨h1,_⟩|rfl|rfl
  ·exact h.bound z h1
  ·show a+2 ^ k≤n;omega
  ·show a+2 ^ k+2 ^ k≤n;omega
theorem xJ.join {n:Nat} {L M:List (Nat×Nat)} (h:xJ n L) {a k:Nat} (hb:Blk (a,k+1)) (h1:(a,k)∈L) (h2:(a+2 ^ k,k)∈L)
 (hM: ∀z,z∈M↔(z∈L∧z≠(a,k)∧z≠(a+2 ^ k,k))∨z=(a,k+1)):xJ n M:=by
 obtain⟨b1,b2,hp⟩:=yO hb
 have hn:=h.bound _ h2
 simp only at hn
 have e2:2 ^ (k+1)=2 ^ k+2 ^ k:=by rw[Nat.pow_succ];omega
 refine⟨fun z hz=> ?_,fun p hpn=> ?_,fun x hx' y hy' p px py=> ?_,fun z hz=> ?_⟩
 ·rcases(hM z).1 hz with⟨q,_⟩|rfl
  ·exact h.blk z q
  ·exact hb
 ·obtain⟨z,hz,pz⟩:=h.cov p hpn
  by_cases e:z=(a,k)
  ·subst e;exact⟨_,(hM _).2 (.inr rfl),(hp p).2 (.inl pz)⟩
  ·by_cases e':z=(a+2 ^ k,k)
   ·subst e';exact⟨_,(hM _).2 (.inr rfl),(hp p).2 (.inr pz)⟩
   ·exact⟨z,(hM z).2 (.inl ⟨hz,e,e'⟩),pz⟩
 ·rcases(hM x).1 hx' with⟨q1,n1,n1'⟩|rfl<;>rcases(hM y).1 hy' with⟨q2,n2,n2'⟩|rfl
  ·exact h.one x q1 y q2 p px py
  ·rcases(hp p).1 py with q|q
   ·exact absurd (h.one x q1 _ h1 p px q) n1
   ·exact absurd (h.one x q1 _ h2 p px q) n1'
  ·rcases(hp p).1 px with q|q
   ·exact absurd (h.one y q2 _ h1 p py q) n2
   ·exact absurd (h.one y q2 _ h2 p py q) n2'
  ·rfl
 ·rcases(hM z).1 hz with⟨q,_⟩|rfl
  ·exact h.bound z q
  ·show a+2 ^ (k+1)≤n;omega
end
section
def nt (p:Int×Int):Nat×Nat:=(p.1.toNat,p.2.toNat)
theorem yP {p q:Int×Int} (hp:0≤p.1∧0≤p.2) (hq:0≤q.1∧0≤q.2) (h:nt p=nt q):p=q:=by
 obtain⟨a,k⟩:=p
 obtain⟨b,m⟩:=q
 simp only[nt,eP] at*
 exact⟨om,om⟩
theorem qO {k:Int} (_:0≤k):sz k=((2 ^ k.toNat:Nat):Int):=by simp[sz]
theorem iO (k:Int):1≤sz k:=by
 have:0<2 ^ k.toNat:=Nat.pos_of_ne_zero sI
 have e:sz k=((2 ^ k.toNat:Nat):Int):=by simp[sz]
 omega
def BlkI (x:Int×Int):Prop:=0≤x.1∧0≤x.2∧x.2≤6∧x.1 % sz x.2=0
def yQ (p:Int) (x:Int×Int):Prop:=x.1≤p∧p<x.1+sz x.2
structure TI (n:Int) (L:List (Int×Int)):Prop where
 nn: ∀x∈L,0≤x.1∧0≤x.2
 t:xJ n.toNat (L.map nt)
def ApI (L:List (Int×Int)):Prop:=∀x∈L,x.2<6→(j3 x.1 x.2,x.2)∉L
theorem TI.mem {n:Int} {L:List (Int×Int)} (_:TI n L) {x:Int×Int} (hx:x∈L):nt x∈L.map nt:=bZ.2 ⟨x,hx,rfl⟩
theorem blkI_of {x:Int×Int} (h0:0≤x.1∧0≤x.2) (h:Blk (nt x)):BlkI x:=by
 obtain⟨a,k⟩:=x
 obtain⟨h1,h2⟩:=h
 simp only[nt] at*
 refine⟨h0.1,h0.2,(by show k≤6;omega),?_⟩
 show a % sz k=0
 rw[qO h0.2,show a=((a.toNat:Nat):Int) by omega,←Int.natCast_emod,h2];rfl
theorem blk_nt {x:Int×Int} (h:BlkI x):Blk (nt x):=by
 obtain⟨a,k⟩:=x
 obtain⟨h0,h1,h2,h3⟩:=h
 simp only[nt] at*
 refine⟨(by show k.toNat≤6;omega),?_⟩
 show a.toNat % 2 ^ k.toNat=0
 rw[qO h1,show a=((a.toNat:Nat):Int) by omega,←Int.natCast_emod] at h3
 exact Int.ofNat.inj h3
theorem tF {p:Int} {x:Int×Int} (h0:0≤x.1∧0≤x.2) (hp:0≤p):Inn p.toNat (nt x)↔yQ p x:=by
 unfold Inn yQ nt
 rw[qO h0.2]
 simp only
 omega
theorem TI.blk {n:Int} {L:List (Int×Int)} (h:TI n L) {x:Int×Int} (hx:x∈L):BlkI x:=blkI_of (h.nn x hx) (h.t.blk _ (h.mem hx))
theorem TI.bound {n:Int} {L:List (Int×Int)} (h:TI n L) {x:Int×Int} (hx:x∈L):x.1+sz x.2≤n:=by
 have:=h.t.bound _ (h.mem hx)
 have h0:=h.nn x hx
 simp only[nt] at this
 have hpos:0<2 ^ x.2.toNat:=Nat.pos_of_ne_zero sI
 rw[qO h0.2];omega
theorem TI.cov {n:Int} {L:List (Int×Int)} (h:TI n L) {p:Int} (p0:0≤p) (pn:p<n): ∃x∈L,yQ p x:=by
 obtain⟨y,hy,py⟩:=h.t.cov p.toNat om
 obtain⟨x,hx,rfl⟩:=bZ.1 hy
 exact⟨x,hx,(tF (h.nn x hx) p0).1 py⟩
theorem TI.one {n:Int} {L:List (Int×Int)} (h:TI n L) {x y:Int×Int} (hx:x∈L) (hy:y∈L) {p:Int} (px:yQ p x) (py:yQ p y):x=y:=by
 have p0:0≤p:=by have:=(h.nn x hx).1;have:=px.1;omega
 exact yP (h.nn x hx) (h.nn y hy) (h.t.one _ (h.mem hx) _ (h.mem hy) p.toNat ((tF (h.nn x hx) p0).2 px) ((tF (h.nn y hy) p0).2 py))
theorem TI.same {n:Int} {L:List (Int×Int)} (h:TI n L) {x y:Int×Int} (hx:x∈L) (hy:y∈L) (e:x.1=y.1):x=y:=
 h.one hx hy (p:=x.1) ⟨cB _,by have:=iO x.2;omega⟩ ⟨om,by have:=iO y.2;omega⟩
theorem nt_iff {M:List (Int×Int)} {P:Int×Int→Prop} {Q:Nat×Nat→Prop} (hM: ∀z,z∈M↔P z) (hPQ: ∀z,P z→Q (nt z)) (hQP: ∀y,Q y→∃z,nt z=y∧P z):
 ∀y,y∈M.map nt↔Q y:=by
 intro y
 constructor
 ·intro h
  obtain⟨z,hz,rfl⟩:=bZ.1 h
  exact hPQ z ((hM z).1 hz)
 ·intro h
  obtain⟨z,rfl,hz⟩:=hQP y h
  exact bZ.2 ⟨z,(hM z).2 hz,rfl⟩
theorem TI.split {n:Int} {L M:List (Int×Int)} (h:TI n L) {a k:Int} (k0:0≤k) (hx:(a,k+1)∈L)
 (hM: ∀z,z∈M↔(z∈L∧z≠(a,k+1))∨z=(a,k)∨z=(a+sz k,k)):TI n M:=by
 have a0:=(h.nn _ hx).1
 simp only at a0
 have sk:=iO k
 have nnM: ∀z∈M,0≤z.1∧0≤z.2:=fun z hz=>by
  rcases(hM z).1 hz with⟨h1,_⟩|rfl|rfl
  ·exact h.nn z h1
  ·exact⟨a0,k0⟩
  ·exact⟨(show(0:Int)≤a+sz k by omega),k0⟩
 have e1:nt (a,k+1)=(a.toNat,k.toNat+1):=by simp only[nt,eP];exact⟨trivial,om⟩
 have hsn:=qO k0
 have e2:nt (a+sz k,k)=(a.toNat+2 ^ k.toNat,k.toNat):=by
  simp only[nt,eP]
  exact⟨om,trivial⟩
 refine⟨nnM,h.t.split (a:=a.toNat) (k:=k.toNat) (e1▸h.mem hx) ?_⟩
 refine nt_iff (P:=fun z=>(z∈L∧z≠(a,k+1))∨z=(a,k)∨z=(a+sz k,k)) hM ?_ ?_
 ·rintro z (⟨h1,h2⟩|rfl|rfl)
  ·exact .inl ⟨h.mem h1,fun e=>h2 (yP (h.nn z h1) (h.nn _ hx) (e.trans e1.symm))⟩
  ·exact .inr (.inl rfl)
  ·exact .inr (.inr e2)
 ·rintro y (⟨h1,h2⟩|rfl|rfl)
  ·obtain⟨z,hz,rfl⟩:=bZ.1 h1
   exact⟨z,rfl,.inl ⟨hz,fun e=>h2 (by rw[e,e1])⟩⟩
  ·exact⟨(a,k),rfl,.inr (.inl rfl)⟩
  ·exact⟨(a+sz k,k),e2,.inr (.inr rfl)⟩
theorem TI.join {n:Int} {L M:List (Int×Int)} (h:TI n L) {a k:Int} (k0:0≤k) (hb:BlkI (a,k+1)) (h1:(a,k)∈L) (h2:(a+sz k,k)∈L)
 (hM: ∀z,z∈M↔(z∈L∧z≠(a,k)∧z≠(a+sz k,k))∨z=(a,k+1)):TI n M:=by
 have a0:=(h.nn _ h1).1
 simp only at a0
 have sk:=iO k
 have e1:nt (a,k+1)=(a.toNat,k.toNat+1):=by simp only[nt,eP];exact⟨trivial,om⟩
 have hsn:=qO k0
 have e2:nt (a+sz k,k)=(a.toNat+2 ^ k.toNat,k.toNat):=by
  simp only[nt,eP]
  exact⟨om,trivial⟩
 refine⟨fun z hz=> ?_,h.t.join (a:=a.toNat) (k:=k.toNat) (e1▸blk_nt hb) (h.mem h1) (e2▸h.mem h2) ?_⟩
 ·rcases(hM z).1 hz with⟨q,_⟩|rfl
  ·exact h.nn z q
  ·exact⟨a0,(show(0:Int)≤k+1 by omega)⟩
 refine nt_iff (P:=fun z=>(z∈L∧z≠(a,k)∧z≠(a+sz k,k))∨z=(a,k+1)) hM ?_ ?_
 ·rintro z (⟨q1,q2,q3⟩|rfl)
  ·exact .inl ⟨h.mem q1,fun e=>q2 (yP (h.nn z q1) (h.nn _ h1) e),fun e=>q3 (yP (h.nn z q1) (h.nn _ h2) (e.trans e2.symm))⟩
  ·exact .inr e1
 ·rintro y (⟨q1,q2,q3⟩|rfl)
  ·obtain⟨z,hz,rfl⟩:=bZ.1 q1
   exact⟨z,rfl,.inl ⟨hz,fun e=>q2 (by rw[e];rfl),fun e=>q3 (by rw[e,e2])⟩⟩
  ·exact⟨(a,k+1),e1,.inr rfl⟩
end
section
def qp (x:Int×Int):List (Int×Int)→Int×Int
 |[]=>x
 |y::r=>qp (if y.2<x.2 then y else x) r
def sP (k:Int) (F:List (Int×Int)):List (Int×Int):=F.filter fun p=> !decide (p.2<k)
def iG (k:Int) (F:List (Int×Int)):Option (Int×Int):=match sP k F with|[]=>none|x::r=>some (qp x r)
def kZ:Nat→Int→Int→List (Int×Int)→List (Int×Int)
 |0,_,_,F=>F
 |d+1,a,k,F=>kZ d a k (ji (a+sz (k+d)) (k+d) F)
def upF:Nat→Int→Int→List (Int×Int)→(Int×Int)×List (Int×Int)
 |0,a,k,F=>((a,k),F)
 |f+1,a,k,F=>if jK F (j3 a k)=some k then upF f (kE a k) (k+1) (iV (j3 a k) F) else((a,k),F)
def kQ (k:Int) (x:Int×Int) (F:List (Int×Int)):List (Int×Int):=kZ (x.2-k).toNat x.1 k (iV x.1 F)
def sQ (a k:Int) (F:List (Int×Int)):List (Int×Int):=ji (upF (6-k).toNat a k F).1.1 (upF (6-k).toNat a k F).1.2 (upF (6-k).toNat a k F).2
def iD:List (Int×Int)→Int
 |[]=>0
 |x::r=>sz x.2+iD r
theorem yR: ∀(x:Int×Int) (r:List (Int×Int)),qp x r∈x::r
 |x,[]=>by simp[qp]
 |x,y::r=>by
  unfold qp
  rcases aC.1 (yR (if y.2<x.2 then y else x) r) with h|h
  ·rw[h]
   split<;>simp
  ·exact aj _ (aj _ h)
theorem yS {k:Int} {F:List (Int×Int)} {p:Int×Int}:p∈sP k F↔p∈F∧k≤p.2:=by simp[sP]
theorem iR {k:Int} {F:List (Int×Int)} {x:Int×Int} (h:iG k F=some x):x∈F∧k≤x.2:=by
 unfold iG at h
 split at h
 ·cases h
 ·rename_i y r e
  obtain rfl:=aI h
  exact yS.1 (e▸yR y r)
theorem tH {k:Int} {F:List (Int×Int)} (h:iG k F=none): ∀p∈F,p.2<k:=by
 intro p hp
 unfold iG at h
 split at h
 ·rename_i e
  rcases Int.lt_or_le p.2 k with h'|h'
  ·exact h'
  ·have:=yS.2 ⟨hp,h'⟩
   rw[e] at this
   cases this
 ·cases h
theorem qP {l:List (Int×Int)} (h:Asc l) (z:Int×Int):z∈l↔jK l z.1=some z.2:=⟨fun hz=>ni h hz,fun hz=>j5 hz⟩
theorem qC {l:List (Int×Int)} (h:Asc l) {a k:Int} {z:Int×Int}:z∈ji a k l↔z=(a,k)∨(z∈l∧z.1≠a):=by
 obtain⟨b,m⟩:=z
 rw[qP (h.put a k),qB a k _ h,qP h]
 simp only[eP]
 by_cases e:a=b
 ·subst e
  rw[if_pos rfl]
  constructor
  ·intro q;exact .inl ⟨rfl,(aI q).symm⟩
  ·rintro(⟨_,q⟩|⟨_,q⟩)
   ·rw[q]
   ·exact absurd rfl q
 ·rw[if_neg e]
  constructor
  ·intro q;exact .inr ⟨q,fun x=>e x.symm⟩
  ·rintro(⟨q,_⟩|⟨q,_⟩)
   ·exact absurd q.symm e
   ·exact q
structure Inv (n:Int) (F T:List (Int×Int)):Prop where
 n1:1≤n
 n2:n≤256
 fa:Asc F
 ta:Asc T
 t:TI n (F++T)
 dis: ∀p∈F,p∉T
 ap:ApI F
structure jU (n:Int) (F T:List (Int×Int)) (x:Int×Int):Prop where
 n1:1≤n
 n2:n≤256
 fa:Asc F
 ta:Asc T
 t:TI n (x::(F++T))
 dis: ∀p∈F,p∉T
 nf:x∉F
 ntk:x∉T
 ap:ApI F
theorem qQ (x:Int×Int):yQ x.1 x:=⟨cB _,by have:=iO x.2;omega⟩
theorem Inv.memF {n:Int} {F T:List (Int×Int)} (_:Inv n F T) {x:Int×Int} (hx:x∈F):x∈F++T:=av _ hx
theorem Inv.memT {n:Int} {F T:List (Int×Int)} (_:Inv n F T) {x:Int×Int} (hx:x∈T):x∈F++T:=aB _ hx
theorem Inv.hand {n:Int} {F T:List (Int×Int)} (h:Inv n F T) {x:Int×Int} (hx:x∈F):jU n (iV x.1 F) T x:=by
 have hd: ∀z,z∈iV x.1 F↔z∈F∧z≠x:=fun z=>by
  rw[qA]
  exact⟨fun⟨q,r⟩=>⟨q,fun e=>r (by rw[e])⟩,fun⟨q,r⟩=>⟨q,fun e=>r (h.t.same (h.memF q) (h.memF hx) e)⟩⟩
 refine⟨h.n1,h.n2,h.fa.del _,h.ta,?_,fun p hp=>h.dis p ((hd p).1 hp).1,fun q=>((hd x).1 q).2 rfl,h.dis x hx,fun y hy h6 hb=>h.ap y ((hd y).1 hy).1 h6 ((hd _).1 hb).1⟩
 have hm: ∀z,z∈x::(iV x.1 F++T)↔z∈F++T:=fun z=>by
  simp only[aC,aF,hd]
  constructor
  ·rintro(rfl|⟨q,_⟩|q)
   ·exact .inl hx
   ·exact .inl q
   ·exact .inr q
  ·rintro(q|q)
   ·by_cases e:z=x
    ·exact .inl e
    ·exact .inr (.inl ⟨q,e⟩)
   ·exact .inr (.inr q)
 have t:=h.t
 have hm2: ∀y,y∈(x::(iV x.1 F++T)).map nt↔y∈(F++T).map nt:=fun y=>by
  simp only[bZ,hm]
 exact⟨fun z hz=>t.nn z ((hm z).1 hz),⟨fun y hy=>t.t.blk y ((hm2 y).1 hy),fun p hp=>by obtain⟨y,hy,q⟩:=t.t.cov p hp;exact⟨y,(hm2 y).2 hy,q⟩,
  fun y hy z hz p=>t.t.one y ((hm2 y).1 hy) z ((hm2 z).1 hz) p,fun y hy=>t.t.bound y ((hm2 y).1 hy)⟩⟩
theorem TI.congr {n:Int} {L M:List (Int×Int)} (t:TI n L) (hm: ∀z,z∈M↔z∈L):TI n M:=by
 have hm2: ∀y,y∈M.map nt↔y∈L.map nt:=fun y=>by simp only[bZ,hm]
 exact⟨fun z hz=>t.nn z ((hm z).1 hz),⟨fun y hy=>t.t.blk y ((hm2 y).1 hy),fun p hp=>by obtain⟨y,hy,q⟩:=t.t.cov p hp;exact⟨y,(hm2 y).2 hy,q⟩,
  fun y hy z hz p=>t.t.one y ((hm2 y).1 hy) z ((hm2 z).1 hz) p,fun y hy=>t.t.bound y ((hm2 y).1 hy)⟩⟩
theorem Inv.handT {n:Int} {F T:List (Int×Int)} (h:Inv n F T) {x:Int×Int} (hx:x∈T):jU n F (iV x.1 T) x:=by
 have hd: ∀z,z∈iV x.1 T↔z∈T∧z≠x:=fun z=>by
  rw[qA]
  exact⟨fun⟨q,r⟩=>⟨q,fun e=>r (by rw[e])⟩,fun⟨q,r⟩=>⟨q,fun e=>r (h.t.same (h.memT q) (h.memT hx) e)⟩⟩
 refine⟨h.n1,h.n2,h.fa,h.ta.del _,h.t.congr fun z=> ?_,fun p hp q=>h.dis p hp ((hd p).1 q).1,fun q=>h.dis x q hx,fun q=>((hd x).1 q).2 rfl,h.ap⟩
 simp only[aC,aF,hd]
 constructor
 ·rintro(rfl|q|⟨q,_⟩)
  ·exact .inr hx
  ·exact .inl q
  ·exact .inr q
 ·rintro(q|q)
  ·exact .inr (.inl q)
  ·by_cases e:z=x
   ·exact .inl e
   ·exact .inr (.inr ⟨q,e⟩)
theorem jU.other {n:Int} {F T:List (Int×Int)} {x:Int×Int} (h:jU n F T x) {z:Int×Int} (hz:z∈F++T):z.1≠x.1:=fun e=>by
 have:=h.t.same (aj _ hz) (aD ..) e
 subst this
 rcases aF.1 hz with q|q
 ·exact h.nf q
 ·exact h.ntk q
theorem jU.blk {n:Int} {F T:List (Int×Int)} {x:Int×Int} (h:jU n F T x):BlkI x:=h.t.blk (aD ..)
theorem jU.putT {n:Int} {F T:List (Int×Int)} {a k:Int} (h:jU n F T (a,k)):Inv n F (ji a k T):=by
 have hd: ∀z,z∈ji a k T↔z=(a,k)∨z∈T:=fun z=>by
  rw[qC h.ta]
  exact⟨fun q=>q.imp id And.left,fun q=>q.imp id fun r=>⟨r,h.other (aB _ r)⟩⟩
 refine⟨h.n1,h.n2,h.fa,h.ta.put _ _,h.t.congr fun z=> ?_,fun p hp q=> ?_,h.ap⟩
 ·simp only[aC,aF,hd]
  constructor
  ·rintro(q|q|q)
   ·exact .inr (.inl q)
   ·exact .inl q
   ·exact .inr (.inr q)
  ·rintro(q|q|q)
   ·exact .inr (.inl q)
   ·exact .inl q
   ·exact .inr (.inr q)
 ·rcases(hd p).1 q with rfl|q
  ·exact h.nf hp
  ·exact h.dis p hp q
theorem jU.putF {n:Int} {F T:List (Int×Int)} {a k:Int} (h:jU n F T (a,k)) (hb:k<6→jK F (j3 a k)≠some k):Inv n (ji a k F) T:=by
 have hd: ∀z,z∈ji a k F↔z=(a,k)∨z∈F:=fun z=>by
  rw[qC h.fa]
  exact⟨fun q=>q.imp id And.left,fun q=>q.imp id fun r=>⟨r,h.other (av _ r)⟩⟩
 obtain⟨b0,b1,b2,b3⟩:=h.blk
 have bn:=h.t.bound (aD ..)
 have:=iO k
 have n2:=h.n2
 simp only at b0 b1 b2 b3 bn
 refine⟨h.n1,h.n2,h.fa.put _ _,h.ta,h.t.congr fun z=> ?_,fun p hp q=> ?_,fun y hy h6 hbad=> ?_⟩
 ·simp only[aC,aF,hd]
  constructor
  ·rintro((q|q)|q)
   ·exact .inl q
   ·exact .inr (.inl q)
   ·exact .inr (.inr q)
  ·rintro(q|q|q)
   ·exact .inl (.inl q)
   ·exact .inl (.inr q)
   ·exact .inr q
 ·rcases(hd p).1 hp with rfl|hp
  ·exact h.ntk q
  ·exact h.dis p hp q
 ·rcases(hd y).1 hy with rfl|hy
  ·obtain⟨_,hinv,_⟩:=kin b0 om b1 (by simp only at h6;omega) b3
   rcases(hd _).1 hbad with e|hbad
   ·have e1:j3 a k=a:=congrArg Prod.fst e
    unfold j3 at e1
    split at e1<;>omega
   ·exact hb h6 ((qP h.fa _).1 hbad)
  ·rcases(hd _).1 hbad with e|hbad
   ·have e1:j3 y.1 y.2=a:=congrArg Prod.fst e
    have e2:y.2=k:=congrArg Prod.snd e
    have by':=h.t.blk (aj _ (av _ hy))
    have bny:=h.t.bound (aj _ (av T hy))
    have:=iO y.2
    obtain⟨_,hinv,_⟩:=kin by'.1 om by'.2.1 om by'.2.2.2
    rw[e1,e2] at hinv
    refine hb om ?_
    rw[hinv,←e2]
    exact(qP h.fa _).1 hy
   ·exact h.ap y hy h6 hbad
theorem yT {a k:Int} (k0:0≤k) (k5:k≤5) (h:a % sz (k+1)=0):a % sz k=0∧j3 a k=a+sz k∧kE a k=a∧j3 (a+sz k) k=a∧(a+sz k) % sz k=0:=by
 have e:k=0∨k=1∨k=2∨k=3∨k=4∨k=5:=om
 unfold j3 kE
 rcases e with rfl|rfl|rfl|rfl|rfl|rfl<;>simp only[sz0,sz1,sz2,sz3,sz4,sz5,sz6,show(0:Int)+1=1 from rfl,show(1:Int)+1=2 from rfl,show(2:Int)+1=3 from rfl,show(3:Int)+1=4 from rfl,show(4:Int)+1=5 from rfl,show(5:Int)+1=6 from rfl] at* <;>(refine⟨?_,?_,?_,?_,?_⟩<;>omega)
theorem jU.cut {n:Int} {F T:List (Int×Int)} {a k:Int} (k0:0≤k) (h:jU n F T (a,k+1)):jU n (ji (a+sz k) k F) T (a,k):=by
 obtain⟨b0,b1,b2,b3⟩:=h.blk
 have bn:=h.t.bound (aD ..)
 have sk:=iO k
 have n2:=h.n2
 simp only at b0 b1 b2 b3 bn
 have e2:=mD k0 om
 obtain⟨m1,m2,m3,m4,m5⟩:=yT k0 om b3
 have hno: ∀z:Int×Int,z∈F++T→∀p,yQ p z→¬(a≤p∧p<a+sz (k+1)):=fun z hz p hp hq=>by
  have:=h.t.one (aj _ hz) (aD ..) hp hq
  exact h.other hz (by rw[this])
 have hd: ∀z,z∈ji (a+sz k) k F↔z=(a+sz k,k)∨z∈F:=fun z=>by
  rw[qC h.fa]
  refine⟨fun q=>q.imp id And.left,fun q=>q.imp id fun r=>⟨r,fun e=> ?_⟩⟩
  exact hno z (av _ r) z.1 (qQ z) ⟨om,om⟩
 have hlow:(a,k)∉F++T:=fun q=>hno _ q a (qQ (a,k)) ⟨om,om⟩
 have hhigh:(a+sz k,k)∉F++T:=fun q=>hno _ q (a+sz k) (qQ (a+sz k,k)) ⟨om,om⟩
 refine⟨h.n1,h.n2,h.fa.put _ _,h.ta,h.t.split (a:=a) (k:=k) k0 (aD ..) fun z=> ?_,fun p hp q=> ?_,fun q=> ?_,fun q=>hlow (aB _ q),fun y hy h6 hbad=> ?_⟩
 ·simp only[aC,aF,hd]
  constructor
  ·rintro(q|(q|q)|q)
   ·exact .inr (.inl q)
   ·exact .inr (.inr q)
   ·exact .inl ⟨.inr (.inl q),fun e=>h.nf (e▸q)⟩
   ·exact .inl ⟨.inr (.inr q),fun e=>h.ntk (e▸q)⟩
  ·rintro(⟨q|q|q,r⟩|q|q)
   ·exact absurd q r
   ·exact .inr (.inl (.inr q))
   ·exact .inr (.inr q)
   ·exact .inl q
   ·exact .inr (.inl (.inl q))
 ·rcases(hd p).1 hp with rfl|hp
  ·exact hhigh (aB _ q)
  ·exact h.dis p hp q
 ·rcases(hd _).1 q with e|q
  ·have:a=a+sz k:=congrArg Prod.fst e
   omega
  ·exact hlow (av _ q)
 ·rcases(hd y).1 hy with rfl|hy
  ·simp only[m4] at hbad
   rcases(hd _).1 hbad with e|q
   ·have:a=a+sz k:=congrArg Prod.fst e
    omega
   ·exact hlow (av _ q)
  ·rcases(hd _).1 hbad with e|hbad
   ·have e1:j3 y.1 y.2=a+sz k:=congrArg Prod.fst e
    have e2':y.2=k:=congrArg Prod.snd e
    have by':=h.t.blk (aj _ (av _ hy))
    have bny:=h.t.bound (aj _ (av T hy))
    have:=iO y.2
    obtain⟨_,hinv,_⟩:=kin by'.1 om by'.2.1 om by'.2.2.2
    rw[e1,e2',m4] at hinv
    refine hlow (av _ ?_)
    have:y=(a,k):=Prod.ext hinv.symm e2'
    exact this▸hy
   ·exact h.ap y hy h6 hbad
theorem jU.up {n:Int} {F T:List (Int×Int)} {a k:Int} (h:jU n F T (a,k)) (k5:k<6) (hb:jK F (j3 a k)=some k):jU n (iV (j3 a k) F) T (kE a k,k+1):=by
 obtain⟨b0,b1,b2,b3⟩:=h.blk
 have bn:=h.t.bound (aD ..)
 have sk:=iO k
 have n2:=h.n2
 simp only at b0 b1 b2 b3 bn
 have hbm:(j3 a k,k)∈F:=j5 hb
 obtain⟨⟨q0,q1,q2⟩,hinv,hpar,⟨p0,p1,p2⟩,hcase,_⟩:=kin b0 om b1 om b3
 have hd: ∀z,z∈iV (j3 a k) F↔z∈F∧z≠(j3 a k,k):=fun z=>by
  rw[qA]
  refine⟨fun⟨q,r⟩=>⟨q,fun e=>r (by rw[e])⟩,fun⟨q,r⟩=>⟨q,fun e=>r ?_⟩⟩
  exact h.t.same (aj _ (av _ q)) (aj _ (av _ hbm)) e
 have hbT:(j3 a k,k)∉T:=h.dis _ hbm
 have hne:(j3 a k,k)≠(a,k):=fun e=>h.nf (e▸hbm)
 have hbig:BlkI (kE a k,k+1):=⟨p0,(show(0:Int)≤k+1 by omega),(show k+1≤6 by omega),p2⟩
 have e2:=mD b1 b2
 have hno: ∀z:Int×Int,z∈iV (j3 a k) F++T→z≠(kE a k,k+1):=fun z hz e=>by
  subst e
  have hz':(kE a k,k+1)∈F++T:=by
   rcases aF.1 hz with q|q
   ·exact av _ ((hd _).1 q).1
   ·exact aB _ q
  have:=h.t.one (aj _ hz') (aD ..) (p:=a) ⟨by rcases hcase with⟨c1,c2⟩|⟨c1,c2⟩<;>simp only<;>omega,by simp only;rcases hcase with⟨c1,c2⟩|⟨c1,c2⟩<;>omega⟩ (qQ (a,k))
  have:=congrArg Prod.snd this
  simp only at this
  omega
 refine⟨h.n1,h.n2,h.fa.del _,h.ta,?_,fun p hp=>h.dis p ((hd p).1 hp).1,fun q=>hno _ (av _ q) rfl,fun q=>hno _ (aB _ q) rfl,fun y hy h6 hbad=>h.ap y ((hd y).1 hy).1 h6 ((hd _).1 hbad).1⟩
 rcases hcase with⟨c1,c2⟩|⟨c1,c2⟩
 ·rw[c1] at c2 hbig ⊢
  refine h.t.join (a:=a) (k:=k) b1 hbig (aD ..) (aj _ (av _ (c2▸hbm))) fun z=> ?_
  rw[←c2]
  simp only[aC,aF,hd]
  constructor
  ·rintro(q|⟨q,r⟩|q)
   ·exact .inr q
   ·exact .inl ⟨.inr (.inl q),fun e=>h.nf (e▸q),r⟩
   ·exact .inl ⟨.inr (.inr q),fun e=>h.ntk (e▸q),fun e=>hbT (e▸q)⟩
  ·rintro(⟨q|q|q,r,s⟩|q)
   ·exact absurd q r
   ·exact .inr (.inl ⟨q,s⟩)
   ·exact .inr (.inr q)
   ·exact .inl q
 ·rw[c1] at c2 hbig ⊢
  refine h.t.join (a:=j3 a k) (k:=k) b1 hbig (aj _ (av _ hbm)) (by rw[←c2];exact aD ..) fun z=> ?_
  rw[←c2]
  simp only[aC,aF,hd]
  constructor
  ·rintro(q|⟨q,r⟩|q)
   ·exact .inr q
   ·exact .inl ⟨.inr (.inl q),r,fun e=>h.nf (e▸q)⟩
   ·exact .inl ⟨.inr (.inr q),fun e=>hbT (e▸q),fun e=>h.ntk (e▸q)⟩
  ·rintro(⟨q|q|q,r,s⟩|q)
   ·exact absurd q s
   ·exact .inr (.inl ⟨q,r⟩)
   ·exact .inr (.inr q)
   ·exact .inl q
theorem jU.down {n:Int} {T:List (Int×Int)} {a k:Int} (k0:0≤k): ∀(d:Nat) {F:List (Int×Int)},jU n F T (a,k+d)→jU n (kZ d a k F) T (a,k)
 |0,F,h=>by simpa[kZ] using h
 |d+1,F,h=>by
  unfold kZ
  refine jU.down k0 d (jU.cut om ?_)
  have e:k+((d+1:Nat):Int)=k+d+1:=om
  rw[e] at h
  exact h
theorem Inv.take {n:Int} {F T:List (Int×Int)} (h:Inv n F T) {k:Int} (k0:0≤k) {x:Int×Int} (hx:iG k F=some x):Inv n (kQ k x F) (ji x.1 k T):=by
 obtain⟨h1,h2⟩:=iR hx
 have hh:=h.hand h1
 obtain⟨a,m⟩:=x
 simp only at h2
 refine jU.putT (jU.down k0 _ ?_)
 rwa [show k+(((m-k).toNat:Nat):Int)=m by omega]
theorem jU.give {n:Int} {T:List (Int×Int)}: ∀(f:Nat) {a k:Int} {F:List (Int×Int)},jU n F T (a,k)→f=(6-k).toNat→Inv n (ji (upF f a k F).1.1 (upF f a k F).1.2 (upF f a k F).2) T
 |0,a,k,F,h,hf=>by
  unfold upF
  exact h.putF fun q=>om
 |f+1,a,k,F,h,hf=>by
  unfold upF
  by_cases hb:jK F (j3 a k)=some k
  ·rw[if_pos hb]
   exact jU.give f (h.up om hb) om
  ·rw[if_neg hb]
   exact h.putF fun _=>hb
theorem Inv.give {n:Int} {F T:List (Int×Int)} (h:Inv n F T) {a k:Int} (hx:(a,k)∈T):Inv n (sQ a k F) (iV a T):=jU.give _ (h.handT hx) rfl
end
section
theorem Asc.len: ∀{l:List (Int×Int)} {a e:Int},Asc l→(∀p∈l,a≤p.1∧p.1<e)→a≤e→(l.length:Int)≤e-a
 |[],a,e,_,_,h=>by simp;omega
 |p::r,a,e,hA,hr,h=>by
  obtain⟨h1,h2⟩:=aY.1 hA
  have hp:=hr p sI
  have:=Asc.len (a:=p.1+1) (e:=e) h2 (fun q hq=>⟨by have:=h1 q hq;omega,(hr q (by simp[hq])).2⟩) om
  simp only[dG]
  omega
theorem Inv.BG {n:Int} {F T:List (Int×Int)} (h:Inv n F T) {p:Int×Int} (hp:p∈F):0≤p.1∧p.1<256∧0≤p.2∧p.2≤6:=by
 obtain⟨b0,b1,b2,_⟩:=h.t.blk (h.memF hp)
 have:=h.t.bound (h.memF hp)
 have:=iO p.2
 have:=h.n2
 exact⟨b0,om,b1,b2⟩
theorem Inv.rngT {n:Int} {F T:List (Int×Int)} (h:Inv n F T) {p:Int×Int} (hp:p∈T):0≤p.1∧p.1<256∧0≤p.2∧p.2≤6:=by
 obtain⟨b0,b1,b2,_⟩:=h.t.blk (h.memT hp)
 have:=h.t.bound (h.memT hp)
 have:=iO p.2
 have:=h.n2
 exact⟨b0,om,b1,b2⟩
theorem jU.rng {n:Int} {F T:List (Int×Int)} {x:Int×Int} (h:jU n F T x) {p:Int×Int} (hp:p∈x::(F++T)):0≤p.1∧p.1<256∧0≤p.2∧p.2≤6:=by
 obtain⟨b0,b1,b2,_⟩:=h.t.blk hp
 have:=h.t.bound hp
 have:=iO p.2
 have:=h.n2
 exact⟨b0,om,b1,b2⟩
theorem iT {l:List (Int×Int)} (hA:Asc l) (hr: ∀p∈l,0≤p.1∧p.1<256∧0≤p.2∧p.2≤6):l.length≤256:=by
 have:=hA.len (a:=0) (e:=256) (fun p hp=>⟨(hr p hp).1,(hr p hp).2.1⟩) om
 omega
theorem Inv.lenF {n:Int} {F T:List (Int×Int)} (h:Inv n F T):F.length≤256:=iT h.fa fun _=>h.BG
theorem Inv.lenT {n:Int} {F T:List (Int×Int)} (h:Inv n F T):T.length≤256:=iT h.ta fun _=>h.rngT
theorem Chain.low {e:Int}: ∀{a:Int} {l:List (Int×Int)},Chain e a l→0≤a→∀x∈l,a≤x.1∧x.1+sz x.2≤e∧BlkI x
 |_,[],_,_,x,hx=>by cases hx
 |a,b::r,⟨h1,h2,h3,h4,h5,h6⟩,h0,x,hx=>by
  have:=iO b.2
  rcases aC.1 hx with rfl|hx
  ·exact⟨om,om,⟨om,h2,h3,by rw[h1];exact h4⟩⟩
  ·obtain⟨c1,c2,c3⟩:=Chain.low h6 om x hx
   exact⟨om,c2,c3⟩
theorem Chain.cov {e:Int}: ∀{a:Int} {l:List (Int×Int)},Chain e a l→∀p,a≤p→p<e→∃x∈l,yQ p x
 |_,[],h,p,h1,h2=>by simp only[Chain] at h;omega
 |a,b::r,⟨h1,_,_,_,_,h6⟩,p,p1,p2=>by
  by_cases h:p<a+sz b.2
  ·exact⟨b,sI,⟨om,om⟩⟩
  ·obtain⟨x,hx,q⟩:=Chain.cov h6 p om p2
   exact⟨x,by simp[hx],q⟩
theorem Chain.asc {e:Int}: ∀{a:Int} {l:List (Int×Int)},Chain e a l→0≤a→l.Pairwise fun x y=>x.1+sz x.2≤y.1
 |_,[],_,_=>List.Pairwise.nil
 |a,b::r,⟨h1,_,_,_,_,h6⟩,h0=>by
  have:=iO b.2
  exact aY.2 ⟨fun y hy=>by have:=(Chain.low h6 om y hy).1;omega,Chain.asc h6 om⟩
theorem TI.mk' {n:Int} {L:List (Int×Int)} (hb: ∀x∈L,BlkI x) (hc: ∀p,0≤p→p<n→∃x∈L,yQ p x) (h1: ∀x∈L,∀y∈L,∀p,yQ p x→yQ p y→x=y) (hn: ∀x∈L,x.1+sz x.2≤n):TI n L:=by
 have nn: ∀x∈L,0≤x.1∧0≤x.2:=fun x hx=>⟨(hb x hx).1,(hb x hx).2.1⟩
 have back: ∀y∈L.map nt,∃x∈L,nt x=y:=fun y hy=>by simpa using hy
 refine⟨nn,⟨fun y hy=> ?_,fun p hp=> ?_,fun y hy z hz p py pz=> ?_,fun y hy=> ?_⟩⟩
 ·obtain⟨x,hx,rfl⟩:=back y hy
  exact blk_nt (hb x hx)
 ·obtain⟨x,hx,q⟩:=hc p om om
  refine⟨nt x,bZ.2 ⟨x,hx,rfl⟩,?_⟩
  have:=(tF (p:=p) (nn x hx) om).2 q
  simpa using this
 ·obtain⟨x,hx,rfl⟩:=back y hy
  obtain⟨x',hx',rfl⟩:=back z hz
  have q1:=(tF (p:=(p:Int)) (nn x hx) om).1 (by simpa using py)
  have q2:=(tF (p:=(p:Int)) (nn x' hx') om).1 (by simpa using pz)
  rw[h1 x hx x' hx' _ q1 q2]
 ·obtain⟨x,hx,rfl⟩:=back y hy
  have:=hn x hx
  have h0:=nn x hx
  rw[qO h0.2] at this
  show x.1.toNat+2 ^ x.2.toNat≤n.toNat
  omega
theorem vR {L:List (Int×Int)} (h:L.Pairwise fun x y=>x.1+sz x.2≤y.1): ∀x∈L,∀y∈L,∀p,yQ p x→yQ p y→x=y:=by
 induction h with
 |nil=>intro x hx;cases hx
 | @cons b r hb _ ih=>
   intro x hx y hy p px py
   unfold yQ at px py
   rcases aC.1 hx with rfl|hx<;>rcases aC.1 hy with rfl|hy
   ·rfl
   ·have:=hb _ hy;omega
   ·have:=hb _ ‹_∈r›;omega
   ·exact ih x ‹_› y ‹_› p px py
theorem Chain.tiles {n:Int} {l:List (Int×Int)} (h:Chain n 0 l):TI n l:=
 TI.mk' (fun x hx=>(h.low (cB _) x hx).2.2) (fun p p0 pn=>h.cov p p0 pn) (vR (h.asc (cB _))) (fun x hx=>(h.low (cB _) x hx).2.1)
theorem yU: ∀(f:Nat) (a n:Int),n.toNat≤f→∀x∈lX a n,x.2=nD x.1 (a+n-x.1)∧x.1<a+n
 |0,a,n,h,x,hx=>by rw[jE om] at hx;cases hx
 |f+1,a,n,h,x,hx=>by
  by_cases h0:n≤0
  ·rw[jE h0] at hx;cases hx
  ·rw[mG om] at hx
   have:=iO (nD a n)
   rcases aC.1 hx with rfl|hx
   ·refine⟨?_,(show a<a+n by omega)⟩
    show nD a n=nD a (a+n-a)
    rw[show a+n-a=n by omega]
   ·obtain⟨c1,c2⟩:=yU f _ _ om x hx
    rw[show a+sz (nD a n)+(n-sz (nD a n))=a+n by omega] at c1 c2
    exact⟨c1,c2⟩
theorem cov_ap {n:Int} (n0:0≤n) (n2:n≤256):ApI (lX 0 n):=by
 have hch:=kX n.toNat 0 n (aH _) n0
 rw[show(0:Int)+n=n by omega] at hch
 have key: ∀a k:Int,(a,k)∈lX 0 n→k<6→a % sz (k+1)=0→(a+sz k,k)∉lX 0 n:=by
  intro a k h1 h6 hm h2
  obtain⟨_,k0,_,_⟩:=(hch.low (cB _) _ h1).2.2
  have e:=(yU n.toNat 0 n (aH _) _ h1).1
  have hb:=(hch.low (cB _) _ h2).2.1
  simp only at e hb k0
  have e2:=mD k0 om
  exact uK (a:=a) (n:=0+n-a) (k:=k+1) om om ⟨hm,om⟩
 intro x hx h6 hb
 obtain⟨a,k⟩:=x
 obtain⟨b1,b2,b0,k0,k6,hm⟩:=hch.low (cB _) _ hx
 have sk:=iO k
 simp only at b1 b2 b0 k0 k6 hm h6 hb
 obtain⟨_,hinv,hpar,⟨_,_,p2⟩,hcase,_⟩:=kin b0 om k0 om hm
 rcases hcase with⟨c1,c2⟩|⟨c1,c2⟩
 ·rw[c1] at c2 p2
  exact key a k hx h6 p2 (c2▸hb)
 ·rw[c1] at c2 p2
  exact key _ k hb h6 p2 (by rw[←c2];exact hx)
theorem vS {L:List (Int×Int)} (h:L.Pairwise fun x y=>x.1+sz x.2≤y.1):Asc L:=h.imp fun {x y} q=>by have:=iO x.2;omega
theorem cov_asc {n:Int} (n0:0≤n):Asc (lX 0 n):=vS ((kX n.toNat 0 n (aH _) n0).asc (cB _))
theorem Inv.start {n:Int} (n1:1≤n) (n2:n≤256):Inv n (lX 0 n) []:=by
 have hch:=kX n.toNat 0 n (aH _) om
 rw[show(0:Int)+n=n by omega] at hch
 exact⟨n1,n2,cov_asc om,List.Pairwise.nil,by rw[eU];exact hch.tiles,(fun _ _ h=>by cases h),cov_ap om n2⟩
theorem vU: ∀{l:List (Int×Int)} {a:Int} (k:Int),(∀p∈l,p.1<a)→ji a k l=l++[(a,k)]
 |[],_,_,_=>rfl
 |p::r,a,k,h=>by
  have:=h p sI
  unfold ji
  rw[if_neg om,if_neg om,vU k fun q hq=>h q (by simp[hq])]
  rfl
theorem nN: ∀l m:List (Int×Int),iD (l++m)=iD l+iD m
 |[],m=>by simp[iD]
 |x::r,m=>by simp only[List.cons_append,iD,nN r m];omega
theorem jd: ∀l:List (Int×Int),0≤iD l
 |[]=>cB _
 |x::r=>by have:=jd r;have:=iO x.2;simp only[iD];omega
theorem yV: ∀{l:List (Int×Int)} {a:Int} (k:Int),(∀p∈l,p.1≠a)→iD (ji a k l)=sz k+iD l
 |[],a,k,_=>by simp[ji,iD]
 |p::r,a,k,h=>by
  have h1:=h p sI
  unfold ji
  by_cases c:a<p.1
  ·rw[if_pos c];simp only[iD]
  ·rw[if_neg c,if_neg (fun e=>h1 e.symm)]
   have:=yV (l:=r) k fun q hq=>h q (aj _ hq)
   simp only[iD];omega
theorem yX: ∀{l:List (Int×Int)} {x:Int×Int},Asc l→x∈l→iD (iV x.1 l)=iD l-sz x.2
 |[],x,_,h=>by cases h
 |p::r,x,hA,h=>by
  obtain⟨h1,h2⟩:=aY.1 hA
  rcases aC.1 h with rfl|h
  ·have e:iV x.1 (x::r)=r:=by
    have:iV x.1 (x::r)=iV x.1 r:=by simp[iV]
    rw[this,iV,eO.2 fun q hq=>by have:=h1 q hq;simp;omega]
   rw[e];simp only[iD];omega
  ·have:=h1 x h
   have e:iV x.1 (p::r)=p::iV x.1 r:=by
    have: ¬p.1=x.1:=om
    simp[iV,this]
   rw[e];simp only[iD,yX h2 h];omega
theorem vV {e:Int}: ∀{a:Int} {l:List (Int×Int)},Chain e a l→iD l=e-a
 |_,[],h=>by simp only[Chain] at h;simp[iD];omega
 |a,b::r,⟨_,_,_,_,_,h6⟩=>by simp only[iD,vV h6];omega
theorem sum_le {e:Int}: ∀{a:Int} {l:List (Int×Int)},a≤e→(l.Pairwise fun x y=>x.1+sz x.2≤y.1)→(∀x∈l,a≤x.1∧x.1+sz x.2≤e)→iD l≤e-a
 |a,[],h,_,_=>by simp[iD];omega
 |a,b::r,h,hP,hr=>by
  obtain⟨h1,h2⟩:=aY.1 hP
  have hb:=hr b sI
  have:=sum_le (a:=b.1+sz b.2) (e:=e) om h2 fun x hx=>⟨h1 x hx,(hr x (by simp[hx])).2⟩
  simp only[iD];omega
theorem BN {n:Int} {L l:List (Int×Int)} (t:TI n L) (hs: ∀x∈l,x∈L) (hA:Asc l):l.Pairwise fun x y=>x.1+sz x.2≤y.1:=by
 refine hA.imp_of_mem fun {x y} hx hy q=> ?_
 rcases Int.lt_or_le y.1 (x.1+sz x.2) with h|h
 ·have:=t.one (hs x hx) (hs y hy) (p:=y.1) ⟨om,h⟩ (qQ y)
  rw[this] at q;omega
 ·exact h
theorem Inv.BP {n:Int} {F T:List (Int×Int)} (h:Inv n F T):0≤iD F∧iD F≤n:=by
 refine⟨jd F,?_⟩
 have:=sum_le (a:=0) (e:=n) (by have:=h.n1;omega) (BN h.t (fun x hx=>h.memF hx) h.fa) fun x hx=>⟨(h.BG hx).1,h.t.bound (h.memF hx)⟩
 omega
theorem jU.yY {n:Int} {T:List (Int×Int)} {a k:Int} (k0:0≤k): ∀(d:Nat) {F:List (Int×Int)},jU n F T (a,k+d)→iD (kZ d a k F)=iD F+sz (k+d)-sz k
 |0,F,_=>by simp[kZ]
 |d+1,F,h=>by
  have e:k+((d+1:Nat):Int)=k+d+1:=om
  rw[e] at h
  have hc:=jU.cut om h
  have b2:=h.blk.2.2.1
  simp only at b2
  unfold kZ
  rw[jU.yY k0 d hc,e,mD om om,yV _ fun p hp q=> ?_]
  ·omega
  ·have:=h.t.one (aj _ (av _ hp)) (aD ..) (p:=p.1) (qQ p)
    ⟨by have:=iO (k+d);omega,by show p.1<a+sz (k+d+1);have:=iO (k+d);have:=mD (k:=k+d) om om;omega⟩
   exact h.nf (this▸hp)
theorem Inv.yZ {n:Int} {F T:List (Int×Int)} (h:Inv n F T) {k:Int} (k0:0≤k) {x:Int×Int} (hx:iG k F=some x):iD (kQ k x F)=iD F-sz k:=by
 obtain⟨h1,h2⟩:=iR hx
 have hh:=h.hand h1
 have hd:=yX h.fa h1
 obtain⟨a,m⟩:=x
 simp only at h2 hd
 have e:k+(((m-k).toNat:Nat):Int)=m:=om
 have:=jU.yY (a:=a) k0 (m-k).toNat (F:=iV a F) (T:=T) (n:=n) (by rw[e];exact hh)
 rw[e] at this
 show iD (kZ (m-k).toNat a k (iV a F))=_
 omega
end
section
theorem uM: ∀{l:List (Int×Int)} {a k:Int} {j:Nat},(∀x∈l.take j,x.1<a)→(∀x∈l.drop j,a<x.1)→ji a k l=l.take j++(a,k)::l.drop j
 |[],a,k,j,_,_=>by simp[ji]
 |p::r,a,k,0,_,h2=>by
  have:=h2 p sI
  unfold ji
  rw[if_pos this]
  rfl
 |p::r,a,k,j+1,h1,h2=>by
  have:=h1 p sI
  unfold ji
  rw[if_neg om,if_neg om,uM (j:=j) (fun x hx=>h1 x (by simp[hx])) (fun x hx=>h2 x (by simpa using hx))]
  rfl
theorem qD: ∀{l:List (Int×Int)} {z:Int×Int} {j:Nat},Asc l→l[j]?=some z→iV z.1 l=l.take j++l.drop (j+1)
 |[],z,j,_,h=>by simp at h
 |p::r,z,0,hA,h=>by
  obtain⟨h1,h2⟩:=aY.1 hA
  simp at h
  subst h
  have:iV p.1 (p::r)=iV p.1 r:=by simp[iV]
  rw[this,iV,eO.2 fun q hq=>by have:=h1 q hq;simp;omega]
  rfl
 |p::r,z,j+1,hA,h=>by
  obtain⟨h1,h2⟩:=aY.1 hA
  have hz:r[j]?=some z:=by simpa using h
  have:=h1 z (aA hz)
  have e:iV z.1 (p::r)=p::iV z.1 r:=by
   have: ¬p.1=z.1:=om
   simp[iV,this]
  rw[e,qD h2 hz]
  rfl
theorem cut_at {l:List (Int×Int)} {a:Int} {j:Nat} (hA:Asc l) (hne: ∀x∈l,x.1≠a) (_: ∀x∈l.take j,x.1<a) (hj: ∀x,l[j]?=some x→a≤x.1): ∀x∈l.drop j,a<x.1:=by
 intro x hx
 cases e:l[j]? with
 |none=>
  rw[eX (by simpa using e)] at hx
  cases hx
 |some y=>
  have h0:=hj y e
  have hy:=hne y (aA e)
  rw[dD (ak.1 e).1,(ak.1 e).2] at hx
  rcases aC.1 hx with rfl|hx
  ·omega
  ·have hA':Asc (l.drop j):=List.Pairwise.sublist (List.drop_sublist j l) hA
   rw[dD (ak.1 e).1,(ak.1 e).2] at hA'
   have:=(aY.1 hA').1 x hx
   omega
theorem take_lt {l:List (Int×Int)} {a:Int} {j:Nat} {y:Int×Int} (h: ∀x∈l.take j,x.1<a) (hy:l[j]?=some y) (hlt:y.1<a): ∀x∈l.take (j+1),x.1<a:=by
 intro x hx
 rw[bF,hy] at hx
 rcases aF.1 hx with q|q
 ·exact h x q
 ·simp at q;rw[q];exact hlt
def lY (k:Int) (l:List (Int×Int)):Option (Nat×(Int×Int))→Prop:=fun
 |none=>∀x∈l,x.2<k
 |some (i,x)=>l[i]?=some x∧iG k l=some x
theorem vW: ∀(r:List (Int×Int)) (x y:Int×Int),qp x (r++[y])=if y.2<(qp x r).2 then y else qp x r
 |[],x,y=>rfl
 |z::r,x,y=>by simp only[List.cons_append,qp];exact vW r _ y
theorem BQ (k:Int) (l:List (Int×Int)) (y:Int×Int):sP k (l++[y])=if y.2<k then sP k l else sP k l++[y]:=by
 unfold sP
 rw[fH]
 by_cases h:y.2<k<;>simp[h]
theorem tJ (k:Int) (l:List (Int×Int)) (y:Int×Int):iG k (l++[y])=if y.2<k then iG k l else match iG k l with|none=>some y|some x=>if y.2<x.2 then some y else some x:=by
 unfold iG
 rw[BQ]
 by_cases h:y.2<k
 ·rw[if_pos h,if_pos h]
 ·rw[if_neg h,if_neg h]
  cases e:sP k l with
  |nil=>simp[qp]
  |cons x r=>
   simp only[List.cons_append,vW]
   split<;>rfl
theorem Ag (k:Int):lY k [] none:=fun _ h=>by cases h
theorem qR {k:Int} {l:List (Int×Int)} {b:Option (Nat×(Int×Int))} {y:Int×Int} (h:lY k l b) (hy:y.2<k∨∃i x,b=some (i,x)∧x.2≤y.2):lY k (l++[y]) b:=by
 match b,h with
 |none,h=>
  rcases hy with hy|⟨i,x,e,_⟩
  ·intro x hx
   rcases aF.1 hx with q|q
   ·exact h x q
   ·simp at q;rw[q];exact hy
  ·cases e
 |some (i,x),⟨h1,h2⟩=>
  refine⟨?_,?_⟩
  ·rw[bJ (ak.1 h1).1];exact h1
  ·rw[tJ,h2]
   rcases hy with hy|⟨i',x',e,hy⟩
   ·rw[if_pos hy]
   ·obtain⟨rfl,rfl⟩:i=i'∧x=x':=by simpa using e
    split
    ·rfl
    ·simp only
     rw[if_neg om]
theorem qU {k:Int} {l:List (Int×Int)} {b:Option (Nat×(Int×Int))} {y:Int×Int} (h:lY k l b) (hk:k≤y.2) (hy: ∀i x,b=some (i,x)→y.2<x.2):lY k (l++[y]) (some (l.length,y)):=by
 refine⟨sI,?_⟩
 rw[tJ,if_neg om]
 match b,h with
 |none,h=>
  have:iG k l=none:=by
   unfold iG
   have:sP k l=[]:=by
    refine List.filter_eq_nil_iff.2 fun x hx=> ?_
    have:=h x hx
    simp;omega
   rw[this]
  rw[this]
 |some (i,x),⟨_,h2⟩=>
  rw[h2]
  simp only
  rw[if_pos (hy i x rfl)]
theorem xK {k:Int} {l:List (Int×Int)} (h:lY k l none):iG k l=none:=by
 unfold iG
 have:sP k l=[]:=by
  refine List.filter_eq_nil_iff.2 fun x hx=> ?_
  have:=h x hx
  simp;omega
 rw[this]
end
section
structure TS (n:Int) (F T:List (Int×Int)) (i k:Nat) (at':Int):Prop where
 i1:i≤F.length
 k1:k≤T.length
 a0:0≤at'
 a1:at'≤n
 fb: ∀x∈F.take i,x.1+sz x.2≤at'
 fa: ∀x∈F.drop i,at'≤x.1
 tb: ∀x∈T.take k,x.1+sz x.2≤at'
 ta: ∀x∈T.drop k,at'≤x.1
end
end Go.Proofs.YtdcbhlcbiokbeaaGreatDoor
