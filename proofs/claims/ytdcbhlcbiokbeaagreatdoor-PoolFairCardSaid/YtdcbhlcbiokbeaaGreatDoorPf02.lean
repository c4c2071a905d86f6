/- Lemmas and contracts for the claim's last text: Lay, Plain. -/
import Derived.Test.YtdcbhlcbiokbeaaGreatDoorPf01
set_option linter.unusedSimpArgs false
set_option linter.unusedVariables false
set_option maxHeartbeats 16000000
set_option maxRecDepth 100000
namespace Go.Proofs.YtdcbhlcbiokbeaaGreatDoor
section
open Go.Shelf
def Tryz.keysA_ren:Go.Shelf.Ren:=⟨fun|7=>255|10=>276|n=>n,fun|23=>270|26=>3|3=>3|28=>306|0=>0|27=>305|33=>68|4=>4|n=>n,fun|n=>n⟩
theorem Tryz.keysA:Go.Proofs.SlLaysZI.n7 Tryz.prog Tryz.keysA_ren:={
 mixed:=kR
 f7:=⟨Tryz.f255.name,by decide,Tryz.func255.trans (congrArg some kR)⟩
 f10:=⟨Tryz.f276.name,by decide,Tryz.func276.trans (congrArg some kR)⟩
 t0:=Tryz.underlying0
 a0:=Tryz.isAgg0
 z0:=Tryz.sizeOf0
 v0:=Tryz.zeroValue0
 t4:=Tryz.underlying4
 a4:=Tryz.isAgg4
 z4:=Tryz.sizeOf4
 v4:=Tryz.zeroValue4
 t23:=eP
 a23:=Tryz.isAgg270
 z23:=Tryz.sizeOf270
 v23:=Tryz.zeroValue270
 t26:=bD
 a26:=gI
 z26:=fQ
 v26:=gM
 t27:=Tryz.underlying305
 a27:=Tryz.isAgg305
 z27:=Tryz.sizeOf305
 v27:=Tryz.zeroValue305
 t28:=Tryz.underlying306
 a28:=Tryz.isAgg306
 z28:=Tryz.sizeOf306
 v28:=Tryz.zeroValue306
 t33:=Tryz.underlying68
 a33:=Tryz.isAgg68
 z33:=Tryz.sizeOf68
 v33:=Tryz.zeroValue68}
def Tryz.sortedA_ren:Go.Shelf.Ren:=⟨fun|6=>184|8=>239|9=>240|11=>267|13=>269|12=>268|23=>289|24=>290|14=>280|15=>281|16=>282|17=>283|18=>284|19=>285|20=>286|21=>287|22=>288|25=>293|26=>294|27=>295|28=>296|29=>297|30=>247|31=>299|n=>n,fun|26=>3|28=>306|24=>22|0=>0|3=>3|37=>379|48=>422|50=>424|4=>4|40=>416|39=>415|45=>340|5=>5|9=>9|51=>426|55=>430|57=>432|58=>176|33=>68|n=>n,fun|n=>n⟩
theorem Tryz.sortedA:Go.Proofs.SlLaysZI.n6 Tryz.prog Tryz.sortedA_ren:={
 mixed:=kR
 f6:=⟨Tryz.f184.name,by decide,Tryz.func184.trans (congrArg some kR)⟩
 f8:=⟨Tryz.f239.name,by decide,Tryz.func239.trans (congrArg some kR)⟩
 f11:=⟨Tryz.f267.name,by decide,Tryz.func267.trans (congrArg some kR)⟩
 t0:=Tryz.underlying0
 a0:=Tryz.isAgg0
 z0:=Tryz.sizeOf0
 v0:=Tryz.zeroValue0
 t24:=cZ
 a24:=Tryz.isAgg22
 z24:=Tryz.sizeOf22
 v24:=Tryz.zeroValue22
 t26:=bD
 a26:=gI
 z26:=fQ
 v26:=gM
 t28:=Tryz.underlying306
 a28:=Tryz.isAgg306
 z28:=Tryz.sizeOf306
 v28:=Tryz.zeroValue306
 i26:=by kernel_rfl}
def Tryz.sortA_ren:Go.Shelf.Ren:=⟨fun|5=>240|8=>269|7=>268|19=>289|20=>290|10=>280|11=>281|12=>282|13=>283|14=>284|15=>285|16=>286|17=>287|18=>288|30=>293|31=>294|32=>295|33=>296|34=>297|35=>247|40=>299|n=>n,fun|23=>22|25=>3|3=>3|32=>379|22=>22|0=>0|44=>422|46=>424|4=>4|36=>416|35=>415|41=>340|5=>5|9=>9|53=>426|57=>430|63=>432|64=>176|n=>n,fun|n=>n⟩
theorem Tryz.sortA:Go.Proofs.SlLaysM.n5 Tryz.prog Tryz.sortA_ren:={
 mixed:=kR
 f5:=⟨Tryz.f240.name,by decide,Tryz.func240.trans (congrArg some kR)⟩
 f7:=⟨Tryz.f268.name,by decide,Tryz.func268.trans (congrArg some kR)⟩
 f8:=Tryz.func269.trans (congrArg some kR)
 f10:=⟨Tryz.f280.name,by decide,Tryz.func280.trans (congrArg some kR)⟩
 f11:=⟨Tryz.f281.name,by decide,Tryz.func281.trans (congrArg some kR)⟩
 f12:=⟨Tryz.f282.name,by decide,Tryz.func282.trans (congrArg some kR)⟩
 f13:=⟨Tryz.f283.name,by decide,Tryz.func283.trans (congrArg some kR)⟩
 f14:=⟨Tryz.f284.name,by decide,Tryz.func284.trans (congrArg some kR)⟩
 f15:=⟨Tryz.f285.name,by decide,Tryz.func285.trans (congrArg some kR)⟩
 f16:=⟨Tryz.f286.name,by decide,Tryz.func286.trans (congrArg some kR)⟩
 f17:=⟨Tryz.f287.name,by decide,Tryz.func287.trans (congrArg some kR)⟩
 f18:=⟨Tryz.f288.name,by decide,Tryz.func288.trans (congrArg some kR)⟩
 f19:=Tryz.func289.trans (congrArg some kR)
 f20:=Tryz.func290.trans (congrArg some kR)
 f30:=⟨Tryz.f293.name,by decide,Tryz.func293.trans (congrArg some kR)⟩
 f31:=Tryz.func294.trans (congrArg some kR)
 f32:=Tryz.func295.trans (congrArg some kR)
 f33:=⟨Tryz.f296.name,by decide,Tryz.func296.trans (congrArg some kR)⟩
 f34:=⟨Tryz.f297.name,by decide,Tryz.func297.trans (congrArg some kR)⟩
 f35:=⟨Tryz.f247.name,by decide,Tryz.func247.trans (congrArg some kR)⟩
 f40:=⟨Tryz.f299.name,by decide,Tryz.func299.trans (congrArg some kR)⟩
 t0:=Tryz.underlying0
 a0:=Tryz.isAgg0
 z0:=Tryz.sizeOf0
 v0:=Tryz.zeroValue0
 t3:=bD
 a3:=gI
 z3:=fQ
 v3:=gM
 t4:=Tryz.underlying4
 a4:=Tryz.isAgg4
 z4:=Tryz.sizeOf4
 v4:=Tryz.zeroValue4
 t5:=Tryz.underlying5
 a5:=Tryz.isAgg5
 z5:=Tryz.sizeOf5
 v5:=Tryz.zeroValue5
 t9:=Tryz.underlying9
 a9:=Tryz.isAgg9
 z9:=Tryz.sizeOf9
 v9:=Tryz.zeroValue9
 t22:=cZ
 a22:=Tryz.isAgg22
 z22:=Tryz.sizeOf22
 v22:=Tryz.zeroValue22
 t23:=cZ
 a23:=Tryz.isAgg22
 z23:=Tryz.sizeOf22
 v23:=Tryz.zeroValue22
 t25:=bD
 a25:=gI
 z25:=fQ
 v25:=gM
 t32:=Tryz.underlying379
 a32:=Tryz.isAgg379
 z32:=Tryz.sizeOf379
 v32:=Tryz.zeroValue379
 t35:=Tryz.underlying415
 a35:=Tryz.isAgg415
 z35:=Tryz.sizeOf415
 v35:=Tryz.zeroValue415
 t36:=Tryz.underlying416
 a36:=Tryz.isAgg416
 z36:=Tryz.sizeOf416
 v36:=Tryz.zeroValue416
 t41:=Tryz.underlying340
 a41:=Tryz.isAgg340
 z41:=Tryz.sizeOf340
 v41:=Tryz.zeroValue340
 t44:=Tryz.underlying422
 a44:=Tryz.isAgg422
 z44:=Tryz.sizeOf422
 v44:=Tryz.zeroValue422
 t46:=Tryz.underlying424
 a46:=Tryz.isAgg424
 z46:=Tryz.sizeOf424
 v46:=Tryz.zeroValue424
 t53:=Tryz.underlying426
 a53:=Tryz.isAgg426
 z53:=Tryz.sizeOf426
 v53:=Tryz.zeroValue426
 t57:=Tryz.underlying430
 a57:=Tryz.isAgg430
 z57:=Tryz.sizeOf430
 v57:=Tryz.zeroValue430
 t63:=Tryz.underlying432
 a63:=Tryz.isAgg432
 z63:=Tryz.sizeOf432
 v63:=Tryz.zeroValue432
 t64:=Tryz.underlying176
 a64:=Tryz.isAgg176
 z64:=Tryz.sizeOf176
 v64:=Tryz.zeroValue176}
def Tryz.cloneA_ren:Go.Shelf.Ren:=⟨fun|5=>262|7=>277|n=>n,fun|23=>270|25=>3|3=>3|4=>4|20=>20|n=>n,fun|n=>n⟩
end
section
open Go.RowKit
def sz (k:Int):Int:=2 ^ k.toNat
theorem rA {k:Int} (h0:0≤k) (h6:k≤6):k=0∨k=1∨k=2∨k=3∨k=4∨k=5∨k=6:=om
theorem zY {k:Int} (h0:0≤k) (h6:k≤7):k=0∨k=1∨k=2∨k=3∨k=4∨k=5∨k=6∨k=7:=om
theorem sz0:sz 0=1:=rfl
theorem sz1:sz 1=2:=rfl
theorem sz2:sz 2=4:=rfl
theorem sz3:sz 3=8:=rfl
theorem sz4:sz 4=16:=rfl
theorem sz5:sz 5=32:=rfl
theorem sz6:sz 6=64:=rfl
theorem qM {k:Int} (h0:0≤k) (h6:k≤6):1≤sz k∧sz k≤64:=by
 rcases rA h0 h6 with rfl|rfl|rfl|rfl|rfl|rfl|rfl<;>decide
theorem sz_bd7 {k:Int} (h0:0≤k) (h6:k≤7):1≤sz k∧sz k≤128:=by
 rcases zY h0 h6 with rfl|rfl|rfl|rfl|rfl|rfl|rfl|rfl<;>decide
theorem rC {k:Int} (h0:0≤k) (h6:k≤6):sz (k+1)=2*sz k:=by
 rcases rA h0 h6 with rfl|rfl|rfl|rfl|rfl|rfl|rfl<;>decide
theorem o8 {k:Int} (h0:0≤k) (h6:k≤6):wrap64 (2 ^ k.toNat)=sz k:=by
 unfold wrap64
 rcases rA h0 h6 with rfl|rfl|rfl|rfl|rfl|rfl|rfl<;>decide
theorem zZ: ∀a:Fin 512,∀k:Fin 7,
 bits .and .i64 ((a.val:Nat):Int) (((2 ^ k.val:Nat):Int)-1)=(((a.val % 2 ^ k.val:Nat)):Int)
 ∧bits .xor .i64 ((a.val:Nat):Int) ((2 ^ k.val:Nat):Int)=(if a.val % (2*2 ^ k.val)<2 ^ k.val then((a.val:Nat):Int)+((2 ^ k.val:Nat):Int) else((a.val:Nat):Int)-((2 ^ k.val:Nat):Int))
 ∧bits .andNot .i64 ((a.val:Nat):Int) ((2 ^ k.val:Nat):Int)=(if a.val % (2*2 ^ k.val)<2 ^ k.val then((a.val:Nat):Int) else((a.val:Nat):Int)-((2 ^ k.val:Nat):Int)):=by
 decide+kernel
theorem bits_at {a k:Int} (h0:0≤a) (h1:a<512) (k0:0≤k) (k6:k≤6):
 bits .and .i64 a (sz k-1)=a % sz k
 ∧bits .xor .i64 a (sz k)=(if a % (2*sz k)<sz k then a+sz k else a-sz k)
 ∧bits .andNot .i64 a (sz k)=(if a % (2*sz k)<sz k then a else a-sz k):=by
 obtain⟨n,rfl⟩:=Int.eq_ofNat_of_zero_le h0
 obtain⟨m,rfl⟩:=Int.eq_ofNat_of_zero_le k0
 have t:=zZ ⟨n,om⟩ ⟨m,om⟩
 have e:sz (m:Int)=((2 ^ m:Nat):Int):=by simp[sz]
 have e2:(2:Int)*((2 ^ m:Nat):Int)=((2*2 ^ m:Nat):Int):=sI
 rw[e,e2]
 simp only[←Int.natCast_emod,Int.ofNat_lt] at t ⊢
 exact t
theorem and_sz {a k:Int} (h0:0≤a) (h1:a<512) (k0:0≤k) (k6:k≤6):bits .and .i64 a (sz k-1)=a % sz k:=(bits_at h0 h1 k0 k6).1
def jK (a k:Int):Nat:=if a<0∨256≤a∨k<0∨6<k then 2 else if a % sz k=0 then 0 else 3
def checkE (a k n:Int):Nat:=if n<1∨256<n∨k<0∨6<k∨a<0∨n-sz k<a then 2 else if a % sz k=0 then 0 else 3
def xg (a k:Int):Int:=if a % (2*sz k)<sz k then a else a-sz k
def vg (a k:Int):Int:=if a % (2*sz k)<sz k then a+sz k else a-sz k
theorem qD (a k:Int):(jK a k=2∧(a<0∨256≤a∨k<0∨6<k))∨((0≤a∧a≤255∧0≤k∧k≤6)∧((jK a k=3∧a % sz k≠0)∨(jK a k=0∧a % sz k=0))):=by
 unfold jK
 by_cases h:a<0∨256≤a∨k<0∨6<k
 ·exact .inl ⟨by rw[if_pos h],h⟩
 ·refine .inr ⟨om,?_⟩
  by_cases h2:a % sz k=0
  ·exact .inr ⟨by rw[if_neg h,if_pos h2],h2⟩
  ·exact .inl ⟨by rw[if_neg h,if_neg h2],h2⟩
def upE (a k:Int):Nat:=if jK a k=0 then(if k=6 then 4 else 0) else jK a k
def A8 (a k:Int):Nat:=if jK a k=0 then(if k=0 then 4 else 0) else jK a k
theorem xA {a k:Int} (h:jK a k=0):0≤a∧a≤255∧0≤k∧k≤6∧a % sz k=0:=by
 rcases qD a k with⟨h2,_⟩|⟨⟨a0,a1,k0,k6⟩,⟨h2,_⟩|⟨_,h2⟩⟩
 ·omega
 ·omega
 ·exact⟨a0,a1,k0,k6,h2⟩
theorem tC {a k:Int} (h:A8 a k=0):jK a k=0∧k≠0:=by
 unfold A8 at h
 by_cases h1:jK a k=0
 ·rw[if_pos h1] at h
  exact⟨h1,fun e=>by rw[if_pos e] at h;omega⟩
 ·rw[if_neg h1] at h;omega
theorem Bq {a k:Int} (a0:0≤a) (a1:a≤255) (k0:0≤k) (k6:k≤6) (h:a % sz k=0):jK a k=0:=by
 unfold jK
 rw[if_neg om,if_pos h]
theorem downE_mk {a k:Int} (h:jK a k=0) (h6:k≠0):A8 a k=0:=by unfold A8;rw[if_pos h,if_neg h6]
theorem kin {a k:Int} (a0:0≤a) (a1:a≤255) (k0:0≤k) (k5:k≤5) (ha:a % sz k=0):
 (0≤vg a k∧vg a k≤255∧vg a k % sz k=0)∧vg (vg a k) k=a∧xg (vg a k) k=xg a k∧(0≤xg a k∧xg a k≤255∧xg a k % sz (k+1)=0)∧
 ((xg a k=a∧vg a k=xg a k+sz k)∨(xg a k=vg a k∧a=xg a k+sz k))∧xg a k=a / (2*sz k)*(2*sz k)∧(vg a k=if xg a k=a then a+sz k else xg a k):=by
 have e:k=0∨k=1∨k=2∨k=3∨k=4∨k=5:=om
 rcases e with rfl|rfl|rfl|rfl|rfl|rfl<;>simp only[vg,xg,sz0,sz1,sz2,sz3,sz4,sz5,sz6,show(0:Int)+1=1 from rfl,show(1:Int)+1=2 from rfl,show(2:Int)+1=3 from rfl,show(3:Int)+1=4 from rfl,show(4:Int)+1=5 from rfl,show(5:Int)+1=6 from rfl] at* <;>(refine⟨⟨?_,?_,?_⟩,?_,?_,⟨?_,?_,?_⟩,?_,?_,?_⟩<;>omega)
def ordI (n:Int):Int:=if n≤1 then 0 else if n≤2 then 1 else if n≤4 then 2 else if n≤8 then 3 else if n≤16 then 4 else if n≤32 then 5 else 6
theorem sz_le64 {k:Int} (h0:0≤k) (h6:k≤6):sz k≤64:=(qM h0 h6).2
end
section
open Go.RowKit
def nQ (a n:Int):Int:=if a % 64=0∧64≤n then 6 else if a % 32=0∧32≤n then 5 else if a % 16=0∧16≤n then 4 else if a % 8=0∧8≤n then 3 else if a % 4=0∧4≤n then 2 else if a % 2=0∧2≤n then 1 else 0
theorem mH (a n:Int):0≤nQ a n∧nQ a n≤6:=by
 unfold nQ
 (repeat' split)<;>omega
theorem rD {a n:Int} (h:1≤n):a % sz (nQ a n)=0∧sz (nQ a n)≤n:=by
 unfold nQ
 (repeat' split)<;>simp only[sz0,sz1,sz2,sz3,sz4,sz5,sz6]<;>omega
theorem uz {a n k:Int} (k6:k≤6) (h:nQ a n<k): ¬(a % sz k=0∧sz k≤n):=by
 have h0:=(mH a n).1
 have e:k=1∨k=2∨k=3∨k=4∨k=5∨k=6:=om
 unfold nQ at h
 rcases e with rfl|rfl|rfl|rfl|rfl|rfl<;>simp only[sz1,sz2,sz3,sz4,sz5,sz6]<;>(repeat' split at h)<;>omega
theorem covO_min {a n k:Int} (k0:0≤k) (h:k≤nQ a n) (hn:1≤n):a % sz k=0∧sz k≤n:=by
 have h6:=(mH a n).2
 have e:k=0∨k=1∨k=2∨k=3∨k=4∨k=5∨k=6:=om
 unfold nQ at h
 rcases e with rfl|rfl|rfl|rfl|rfl|rfl|rfl<;>simp only[sz0,sz1,sz2,sz3,sz4,sz5,sz6]<;>(repeat' split at h)<;>omega
def covF:Nat→Int→Int→List (Int×Int)
 |0,_,_=>[]
 |f+1,a,n=>if n≤0 then[] else(a,nQ a n)::covF f (a+sz (nQ a n)) (n-sz (nQ a n))
def mq (a n:Int):List (Int×Int):=covF n.toNat a n
theorem rE: ∀(f g:Nat) (a n:Int),n.toNat≤f→n.toNat≤g→covF f a n=covF g a n
 |0,0,_,_,_,_=>rfl
 |0,g+1,a,n,hf,_=>by
  have:n≤0:=om
  simp[covF,this]
 |f+1,0,a,n,_,hg=>by
  have:n≤0:=om
  simp[covF,this]
 |f+1,g+1,a,n,hf,hg=>by
  unfold covF
  by_cases h:n≤0
  ·rw[if_pos h,if_pos h]
  ·rw[if_neg h,if_neg h]
   have hb:=mH a n
   have hs:=(qM hb.1 hb.2).1
   rw[rE f g _ _ om om]
theorem jL {a n:Int} (h:n≤0):mq a n=[]:=by
 unfold mq
 have:n.toNat=0:=om
 rw[this];rfl
theorem mJ {a n:Int} (h:1≤n):mq a n=(a,nQ a n)::mq (a+sz (nQ a n)) (n-sz (nQ a n)):=by
 have hb:=mH a n
 have hs:=(qM hb.1 hb.2).1
 unfold mq
 obtain⟨f,hf⟩: ∃f,n.toNat=f+1:=⟨n.toNat-1,om⟩
 rw[hf]
 show(if n≤0 then[] else _)=_
 rw[if_neg om]
 rw[rE f (n-sz (nQ a n)).toNat _ _ om (aI _)]
theorem o9: ∀(f:Nat) (a n:Int),n.toNat≤f→((mq a n).length:Int)≤n.toNat
 |0,a,n,h=>by rw[jL om];exact Int.natCast_nonneg _
 |f+1,a,n,h=>by
  by_cases h0:n≤0
  ·rw[jL h0];exact Int.natCast_nonneg _
  ·have hb:=mH a n
   have hs:=(qM hb.1 hb.2).1
   rw[mJ om]
   have:=o9 f (a+sz (nQ a n)) (n-sz (nQ a n)) om
   simp only[cK]
   omega
def Chain (e:Int):Int→List (Int×Int)→Prop
 |a,[]=>a=e
 |a,b::r=>b.1=a∧0≤b.2∧b.2≤6∧a % sz b.2=0∧a+sz b.2≤e∧Chain e (a+sz b.2) r
theorem lG: ∀(f:Nat) (a n:Int),n.toNat≤f→0≤n→Chain (a+n) a (mq a n)
 |0,a,n,h,hn=>by
  have:n=0:=om
  subst this
  rw[jL om]
  simp[Chain]
 |f+1,a,n,h,hn=>by
  by_cases h0:n=0
  ·subst h0
   rw[jL om]
   simp[Chain]
  ·have hb:=mH a n
   have hs:=(qM hb.1 hb.2).1
   obtain⟨f1,f2⟩:=rD (a:=a) (n:=n) om
   rw[mJ om]
   have:=lG f (a+sz (nQ a n)) (n-sz (nQ a n)) om om
   refine⟨rfl,hb.1,hb.2,f1,(show a+sz (nQ a n)≤a+n by omega),?_⟩
   rwa [show a+sz (nQ a n)+(n-sz (nQ a n))=a+n from om] at this
end
section
def Asc (l:List (Int×Int)):Prop:=l.Pairwise fun p q=>p.1<q.1
def qE (l:List (Int×Int)) (a:Int):Option Int:=(l.find? fun p=>p.1==a).map (·.2)
def mD (a:Int) (l:List (Int×Int)):List (Int×Int):=l.filter fun p=>p.1 !=a
def lT (a k:Int):List (Int×Int)→List (Int×Int)
 |[]=>[(a,k)]
 |p::r=>if a<p.1 then(a,k)::p::r else if a=p.1 then(a,k)::r else p::lT a k r
theorem Asc.del {l:List (Int×Int)} (h:Asc l) (a:Int):Asc (mD a l):=List.Pairwise.filter _ h
theorem yH {l:List (Int×Int)} {a:Int} {p:Int×Int}:p∈mD a l↔p∈l∧p.1≠a:=by simp[mD]
theorem uD: ∀{l:List (Int×Int)} {a k:Int} {p:Int×Int},p∈lT a k l→p=(a,k)∨p∈l
 |[],a,k,p,h=>by simpa[lT] using h
 |q::r,a,k,p,h=>by
  unfold lT at h
  split at h
  ·simpa using h
  ·split at h
   ·rcases aB.1 h with h|h
    ·exact .inl h
    ·exact .inr (au _ h)
   ·rcases aB.1 h with h|h
    ·exact .inr (by simp[h])
    ·rcases uD h with h|h
     ·exact .inl h
     ·exact .inr (au _ h)
theorem Asc.put: ∀{l:List (Int×Int)},Asc l→∀a k,Asc (lT a k l)
 |[],_,a,k=>by simp[lT,Asc]
 |q::r,h,a,k=>by
  obtain⟨h1,h2⟩:=aZ.1 h
  unfold lT
  split
  ·refine aZ.2 ⟨fun p hp=> ?_,h⟩
   rcases aB.1 hp with rfl|hp
   ·assumption
   ·have:=h1 p hp;show a<p.1;omega
  ·split
   ·rename_i e
    exact aZ.2 ⟨fun p hp=>by have:=h1 p hp;show a<p.1;omega,h2⟩
   ·refine aZ.2 ⟨fun p hp=> ?_,Asc.put h2 a k⟩
    rcases uD hp with rfl|hp
    ·show q.1<a;omega
    ·exact h1 p hp
theorem jg (p:Int×Int) (l:List (Int×Int)) (a:Int):qE (p::l) a=if p.1=a then some p.2 else qE l a:=by
 unfold qE
 by_cases h:p.1=a<;>simp[h]
theorem oQ: ∀{l:List (Int×Int)} {a k:Int},qE l a=some k→(a,k)∈l
 |[],a,k,h=>by simp[qE] at h
 |p::r,a,k,h=>by
  rw[jg] at h
  split at h
  ·rename_i e
   have:p.2=k:=aH h
   have:p=(a,k):=by rw[←e,←this]
   simp[this]
  ·exact au _ (oQ h)
theorem qR: ∀{l:List (Int×Int)} {a k:Int},Asc l→(a,k)∈l→qE l a=some k
 |[],a,k,_,h=>by simp at h
 |p::r,a,k,hA,h=>by
  obtain⟨h1,h2⟩:=aZ.1 hA
  rw[jg]
  rcases aB.1 h with rfl|h
  ·simp
  ·rw[if_neg,qR h2 h]
   have:=h1 _ h
   simp at this
   omega
theorem qU: ∀{l:List (Int×Int)} (a k b:Int),Asc l→qE (lT a k l) b=if a=b then some k else qE l b
 |[],a,k,b,_=>by rw[lT,jg]
 |p::r,a,k,b,h=>by
  obtain⟨h1,h2⟩:=aZ.1 h
  unfold lT
  split
  ·rw[jg]
  ·split
   ·rename_i e
    rw[jg,jg]
    by_cases hb:a=b
    ·simp[hb]
    ·rw[if_neg (by simpa using hb),if_neg (by simpa using hb),if_neg om]
   ·rw[jg,jg,qU a k b h2]
    by_cases hb:p.1=b
    ·rw[if_pos hb,if_pos hb,if_neg om]
    ·rw[if_neg hb,if_neg hb]
end
section
def Blk (x:Nat×Nat):Prop:=x.2≤6∧x.1 % 2 ^ x.2=0
def Inn (p:Nat) (x:Nat×Nat):Prop:=x.1≤p∧p<x.1+2 ^ x.2
instance (p:Nat) (x:Nat×Nat):Decidable (Inn p x):=inferInstanceAs (Decidable (_∧_))
def budN (x:Nat×Nat):Nat:=if x.1 / 2 ^ x.2 % 2=0 then x.1+2 ^ x.2 else x.1-2 ^ x.2
theorem Br {k:Nat} (h:k≤6):(k=0∧2 ^ k=1)∨(k=1∧2 ^ k=2)∨(k=2∧2 ^ k=4)∨(k=3∧2 ^ k=8)∨(k=4∧2 ^ k=16)∨(k=5∧2 ^ k=32)∨(k=6∧2 ^ k=64):=by
 rcases k with _|_|_|_|_|_|_|k
 all_goals first|omega|simp
structure Tiles (n:Nat) (L:List (Nat×Nat)):Prop where
 blk: ∀x∈L,Blk x
 cov: ∀p,p<n→∃x∈L,Inn p x
 one: ∀x∈L,∀y∈L,∀p,Inn p x→Inn p y→x=y
 bound: ∀x∈L,x.1+2 ^ x.2≤n
def Apart (L:List (Nat×Nat)):Prop:=∀x∈L,x.2<6→(budN x,x.2)∉L
end
section
theorem half_blk {a k:Nat} (h:Blk (a,k+1)):Blk (a,k)∧Blk (a+2 ^ k,k)∧∀p,Inn p (a,k+1)↔(Inn p (a,k)∨Inn p (a+2 ^ k,k)):=by
 obtain⟨hk,ha⟩:=h
 unfold Blk Inn
 simp only at*
 rcases Br (show k≤6 by omega) with⟨rfl,e⟩|⟨rfl,e⟩|⟨rfl,e⟩|⟨rfl,e⟩|⟨rfl,e⟩|⟨rfl,e⟩|⟨rfl,e⟩
 all_goals first
  |omega
  |(simp only[Nat.reduceAdd,Nat.reducePow] at*
    refine⟨⟨om,om⟩,⟨om,om⟩,fun p=>om⟩)
theorem tF {a k:Nat} (p:Nat):Inn p (a,k)→¬Inn p (a+2 ^ k,k):=by
 unfold Inn
 simp only
 omega
theorem Tiles.split {n:Nat} {L M:List (Nat×Nat)} (h:Tiles n L) {a k:Nat} (hx:(a,k+1)∈L)
 (hM: ∀z,z∈M↔(z∈L∧z≠(a,k+1))∨z=(a,k)∨z=(a+2 ^ k,k)):Tiles n M:=by
 obtain⟨b1,b2,hp⟩:=half_blk (h.blk _ hx)
 have hb:=h.bound _ hx
 have e2:2 ^ (k+1)=2 ^ k+2 ^ k:=by rw[Nat.pow_succ];omega
 simp only[e2] at hb
 have hpos:0<2 ^ k:=Nat.pos_of_ne_zero sI
 refine⟨fun z hz=> ?_,fun p hpn=> ?_,fun x hx' y hy' p px py=> ?_,fun z hz=> ?_⟩
 ·rcases(hM z).1 hz with⟨h1,_⟩|rfl|rfl
  ·exact h.blk z h1
  ·exact b1
  ·exact b2
 ·obtain⟨z,hz,pz⟩:=h.cov p hpn
  by_cases e:z=(a,k+1)
  ·subst e
   rcases(hp p).1 pz with q|q
   ·exact⟨_,(hM _).2 (.inr (.inl rfl)),q⟩
   ·exact⟨_,(hM _).2 (.inr (.inr rfl)),q⟩
  ·exact⟨z,(hM z).2 (.inl ⟨hz,e⟩),pz⟩
 ·rcases(hM x).1 hx' with⟨h1,n1⟩|rfl|rfl<;>rcases(hM y).1 hy' with⟨h2,n2⟩|rfl|rfl
  ·exact h.one x h1 y h2 p px py
  ·exact absurd (h.one x h1 _ hx p px ((hp p).2 (.inl py))) n1
  ·exact absurd (h.one x h1 _ hx p px ((hp p).2 (.inr py))) n1
  ·exact absurd (h.one y h2 _ hx p py ((hp p).2 (.inl px))) n2
  ·rfl
  ·exact absurd py (tF p px)
  ·exact absurd (h.one y h2 _ hx p py ((hp p).2 (.inr px))) n2
  ·exact absurd px (tF p py)
  ·rfl
 ·rcases(hM z).1 hz with⟨h1,_⟩|rfl|rfl
  ·exact h.bound z h1
  ·show a+2 ^ k≤n;omega
  ·show a+2 ^ k+2 ^ k≤n;omega
end
section
def nt (p:Int×Int):Nat×Nat:=(p.1.toNat,p.2.toNat)
theorem nt_inj {p q:Int×Int} (hp:0≤p.1∧0≤p.2) (hq:0≤q.1∧0≤q.2) (h:nt p=nt q):p=q:=by
 obtain⟨a,k⟩:=p
 obtain⟨b,m⟩:=q
 simp only[nt,Prod.mk.injEq] at*
 exact⟨om,om⟩
theorem tH {k:Int} (_:0≤k):sz k=((2 ^ k.toNat:Nat):Int):=by simp[sz]
theorem jo (k:Int):1≤sz k:=by
 have:0<2 ^ k.toNat:=Nat.pos_of_ne_zero sI
 have e:sz k=((2 ^ k.toNat:Nat):Int):=by simp[sz]
 omega
def BlkI (x:Int×Int):Prop:=0≤x.1∧0≤x.2∧x.2≤6∧x.1 % sz x.2=0
def yI (p:Int) (x:Int×Int):Prop:=x.1≤p∧p<x.1+sz x.2
structure TI (n:Int) (L:List (Int×Int)):Prop where
 nn: ∀x∈L,0≤x.1∧0≤x.2
 t:Tiles n.toNat (L.map nt)
def ApI (L:List (Int×Int)):Prop:=∀x∈L,x.2<6→(vg x.1 x.2,x.2)∉L
theorem TI.mem {n:Int} {L:List (Int×Int)} (_:TI n L) {x:Int×Int} (hx:x∈L):nt x∈L.map nt:=bR.2 ⟨x,hx,rfl⟩
theorem blkI_of {x:Int×Int} (h0:0≤x.1∧0≤x.2) (h:Blk (nt x)):BlkI x:=by
 obtain⟨a,k⟩:=x
 obtain⟨h1,h2⟩:=h
 simp only[nt] at*
 refine⟨h0.1,h0.2,(by show k≤6;omega),?_⟩
 show a % sz k=0
 rw[tH h0.2,show a=((a.toNat:Nat):Int) by omega,←Int.natCast_emod,h2];rfl
theorem blk_nt {x:Int×Int} (h:BlkI x):Blk (nt x):=by
 obtain⟨a,k⟩:=x
 obtain⟨h0,h1,h2,h3⟩:=h
 simp only[nt] at*
 refine⟨(by show k.toNat≤6;omega),?_⟩
 show a.toNat % 2 ^ k.toNat=0
 rw[tH h1,show a=((a.toNat:Nat):Int) by omega,←Int.natCast_emod] at h3
 exact Int.ofNat.inj h3
theorem tJ {p:Int} {x:Int×Int} (h0:0≤x.1∧0≤x.2) (hp:0≤p):Inn p.toNat (nt x)↔yI p x:=by
 unfold Inn yI nt
 rw[tH h0.2]
 simp only
 omega
theorem TI.blk {n:Int} {L:List (Int×Int)} (h:TI n L) {x:Int×Int} (hx:x∈L):BlkI x:=blkI_of (h.nn x hx) (h.t.blk _ (h.mem hx))
theorem TI.bound {n:Int} {L:List (Int×Int)} (h:TI n L) {x:Int×Int} (hx:x∈L):x.1+sz x.2≤n:=by
 have:=h.t.bound _ (h.mem hx)
 have h0:=h.nn x hx
 simp only[nt] at this
 have hpos:0<2 ^ x.2.toNat:=Nat.pos_of_ne_zero sI
 rw[tH h0.2];omega
theorem TI.cov {n:Int} {L:List (Int×Int)} (h:TI n L) {p:Int} (p0:0≤p) (pn:p<n): ∃x∈L,yI p x:=by
 obtain⟨y,hy,py⟩:=h.t.cov p.toNat om
 obtain⟨x,hx,rfl⟩:=bR.1 hy
 exact⟨x,hx,(tJ (h.nn x hx) p0).1 py⟩
theorem TI.one {n:Int} {L:List (Int×Int)} (h:TI n L) {x y:Int×Int} (hx:x∈L) (hy:y∈L) {p:Int} (px:yI p x) (py:yI p y):x=y:=by
 have p0:0≤p:=by have:=(h.nn x hx).1;have:=px.1;omega
 exact nt_inj (h.nn x hx) (h.nn y hy) (h.t.one _ (h.mem hx) _ (h.mem hy) p.toNat ((tJ (h.nn x hx) p0).2 px) ((tJ (h.nn y hy) p0).2 py))
theorem TI.same {n:Int} {L:List (Int×Int)} (h:TI n L) {x y:Int×Int} (hx:x∈L) (hy:y∈L) (e:x.1=y.1):x=y:=
 h.one hx hy (p:=x.1) ⟨bZ _,by have:=jo x.2;omega⟩ ⟨om,by have:=jo y.2;omega⟩
theorem nt_iff {M:List (Int×Int)} {P:Int×Int→Prop} {Q:Nat×Nat→Prop} (hM: ∀z,z∈M↔P z) (hPQ: ∀z,P z→Q (nt z)) (hQP: ∀y,Q y→∃z,nt z=y∧P z):
 ∀y,y∈M.map nt↔Q y:=by
 intro y
 constructor
 ·intro h
  obtain⟨z,hz,rfl⟩:=bR.1 h
  exact hPQ z ((hM z).1 hz)
 ·intro h
  obtain⟨z,rfl,hz⟩:=hQP y h
  exact bR.2 ⟨z,(hM z).2 hz,rfl⟩
theorem TI.split {n:Int} {L M:List (Int×Int)} (h:TI n L) {a k:Int} (k0:0≤k) (hx:(a,k+1)∈L)
 (hM: ∀z,z∈M↔(z∈L∧z≠(a,k+1))∨z=(a,k)∨z=(a+sz k,k)):TI n M:=by
 have a0:=(h.nn _ hx).1
 simp only at a0
 have sk:=jo k
 have nnM: ∀z∈M,0≤z.1∧0≤z.2:=fun z hz=>by
  rcases(hM z).1 hz with⟨h1,_⟩|rfl|rfl
  ·exact h.nn z h1
  ·exact⟨a0,k0⟩
  ·exact⟨(show(0:Int)≤a+sz k by omega),k0⟩
 have e1:nt (a,k+1)=(a.toNat,k.toNat+1):=by simp only[nt,Prod.mk.injEq];exact⟨trivial,om⟩
 have hsn:=tH k0
 have e2:nt (a+sz k,k)=(a.toNat+2 ^ k.toNat,k.toNat):=by
  simp only[nt,Prod.mk.injEq]
  exact⟨om,trivial⟩
 refine⟨nnM,h.t.split (a:=a.toNat) (k:=k.toNat) (e1▸h.mem hx) ?_⟩
 refine nt_iff (P:=fun z=>(z∈L∧z≠(a,k+1))∨z=(a,k)∨z=(a+sz k,k)) hM ?_ ?_
 ·rintro z (⟨h1,h2⟩|rfl|rfl)
  ·exact .inl ⟨h.mem h1,fun e=>h2 (nt_inj (h.nn z h1) (h.nn _ hx) (e.trans e1.symm))⟩
  ·exact .inr (.inl rfl)
  ·exact .inr (.inr e2)
 ·rintro y (⟨h1,h2⟩|rfl|rfl)
  ·obtain⟨z,hz,rfl⟩:=bR.1 h1
   exact⟨z,rfl,.inl ⟨hz,fun e=>h2 (by rw[e,e1])⟩⟩
  ·exact⟨(a,k),rfl,.inr (.inl rfl)⟩
  ·exact⟨(a+sz k,k),e2,.inr (.inr rfl)⟩
end
section
def tK (x:Int×Int):List (Int×Int)→Int×Int
 |[]=>x
 |y::r=>tK (if y.2<x.2 then y else x) r
def yJ (k:Int) (F:List (Int×Int)):List (Int×Int):=F.filter fun p=> !decide (p.2<k)
def jA (k:Int) (F:List (Int×Int)):Option (Int×Int):=match yJ k F with|[]=>none|x::r=>some (tK x r)
def oU:Nat→Int→Int→List (Int×Int)→List (Int×Int)
 |0,_,_,F=>F
 |d+1,a,k,F=>oU d a k (lT (a+sz (k+d)) (k+d) F)
def upF:Nat→Int→Int→List (Int×Int)→(Int×Int)×List (Int×Int)
 |0,a,k,F=>((a,k),F)
 |f+1,a,k,F=>if qE F (vg a k)=some k then upF f (xg a k) (k+1) (mD (vg a k) F) else((a,k),F)
def oV (k:Int) (x:Int×Int) (F:List (Int×Int)):List (Int×Int):=oU (x.2-k).toNat x.1 k (mD x.1 F)
def giveF (a k:Int) (F:List (Int×Int)):List (Int×Int):=lT (upF (6-k).toNat a k F).1.1 (upF (6-k).toNat a k F).1.2 (upF (6-k).toNat a k F).2
def jM:List (Int×Int)→Int
 |[]=>0
 |x::r=>sz x.2+jM r
theorem yK: ∀(x:Int×Int) (r:List (Int×Int)),tK x r∈x::r
 |x,[]=>by simp[tK]
 |x,y::r=>by
  unfold tK
  rcases aB.1 (yK (if y.2<x.2 then y else x) r) with h|h
  ·rw[h]
   split<;>simp
  ·exact au _ (au _ h)
theorem yL {k:Int} {F:List (Int×Int)} {p:Int×Int}:p∈yJ k F↔p∈F∧k≤p.2:=by simp[yJ]
theorem jq {k:Int} {F:List (Int×Int)} {x:Int×Int} (h:jA k F=some x):x∈F∧k≤x.2:=by
 unfold jA at h
 split at h
 ·cases h
 ·rename_i y r e
  obtain rfl:=aH h
  exact yL.1 (e▸yK y r)
theorem A9 {k:Int} {F:List (Int×Int)} (h:jA k F=none): ∀p∈F,p.2<k:=by
 intro p hp
 unfold jA at h
 split at h
 ·rename_i e
  rcases Int.lt_or_le p.2 k with h'|h'
  ·exact h'
  ·have:=yL.2 ⟨hp,h'⟩
   rw[e] at this
   cases this
 ·cases h
theorem Bt {l:List (Int×Int)} (h:Asc l) (z:Int×Int):z∈l↔qE l z.1=some z.2:=⟨fun hz=>qR h hz,fun hz=>oQ hz⟩
theorem uF {l:List (Int×Int)} (h:Asc l) {a k:Int} {z:Int×Int}:z∈lT a k l↔z=(a,k)∨(z∈l∧z.1≠a):=by
 obtain⟨b,m⟩:=z
 rw[Bt (h.put a k),qU a k _ h,Bt h]
 simp only[Prod.mk.injEq]
 by_cases e:a=b
 ·subst e
  rw[if_pos rfl]
  constructor
  ·intro q;exact .inl ⟨rfl,(aH q).symm⟩
  ·rintro(⟨_,q⟩|⟨_,q⟩)
   ·rw[q]
   ·exact absurd rfl q
 ·rw[if_neg e]
  constructor
  ·intro q;exact .inr ⟨q,fun x=>e x.symm⟩
  ·rintro(⟨q,_⟩|⟨q,_⟩)
   ·exact absurd q.symm e
   ·exact q
structure Inv (n:Int) (F T:List (Int×Int)):Prop where
 n1:1≤n
 n2:n≤256
 fa:Asc F
 ta:Asc T
 t:TI n (F++T)
 dis: ∀p∈F,p∉T
 ap:ApI F
structure oL (n:Int) (F T:List (Int×Int)) (x:Int×Int):Prop where
 n1:1≤n
 n2:n≤256
 fa:Asc F
 ta:Asc T
 t:TI n (x::(F++T))
 dis: ∀p∈F,p∉T
 nf:x∉F
 ntk:x∉T
 ap:ApI F
theorem vk (x:Int×Int):yI x.1 x:=⟨bZ _,by have:=jo x.2;omega⟩
theorem Inv.nY {n:Int} {F T:List (Int×Int)} (_:Inv n F T) {x:Int×Int} (hx:x∈F):x∈F++T:=av _ hx
theorem Inv.memT {n:Int} {F T:List (Int×Int)} (_:Inv n F T) {x:Int×Int} (hx:x∈T):x∈F++T:=aj _ hx
theorem Inv.hand {n:Int} {F T:List (Int×Int)} (h:Inv n F T) {x:Int×Int} (hx:x∈F):oL n (mD x.1 F) T x:=by
 have hd: ∀z,z∈mD x.1 F↔z∈F∧z≠x:=fun z=>by
  rw[yH]
  exact⟨fun⟨q,r⟩=>⟨q,fun e=>r (by rw[e])⟩,fun⟨q,r⟩=>⟨q,fun e=>r (h.t.same (h.nY q) (h.nY hx) e)⟩⟩
 refine⟨h.n1,h.n2,h.fa.del _,h.ta,?_,fun p hp=>h.dis p ((hd p).1 hp).1,fun q=>((hd x).1 q).2 rfl,h.dis x hx,fun y hy h6 hb=>h.ap y ((hd y).1 hy).1 h6 ((hd _).1 hb).1⟩
 have hm: ∀z,z∈x::(mD x.1 F++T)↔z∈F++T:=fun z=>by
  simp only[aB,aC,hd]
  constructor
  ·rintro(rfl|⟨q,_⟩|q)
   ·exact .inl hx
   ·exact .inl q
   ·exact .inr q
  ·rintro(q|q)
   ·by_cases e:z=x
    ·exact .inl e
    ·exact .inr (.inl ⟨q,e⟩)
   ·exact .inr (.inr q)
 have t:=h.t
 have hm2: ∀y,y∈(x::(mD x.1 F++T)).map nt↔y∈(F++T).map nt:=fun y=>by
  simp only[bR,hm]
 exact⟨fun z hz=>t.nn z ((hm z).1 hz),⟨fun y hy=>t.t.blk y ((hm2 y).1 hy),fun p hp=>by obtain⟨y,hy,q⟩:=t.t.cov p hp;exact⟨y,(hm2 y).2 hy,q⟩,
  fun y hy z hz p=>t.t.one y ((hm2 y).1 hy) z ((hm2 z).1 hz) p,fun y hy=>t.t.bound y ((hm2 y).1 hy)⟩⟩
theorem TI.congr {n:Int} {L M:List (Int×Int)} (t:TI n L) (hm: ∀z,z∈M↔z∈L):TI n M:=by
 have hm2: ∀y,y∈M.map nt↔y∈L.map nt:=fun y=>by simp only[bR,hm]
 exact⟨fun z hz=>t.nn z ((hm z).1 hz),⟨fun y hy=>t.t.blk y ((hm2 y).1 hy),fun p hp=>by obtain⟨y,hy,q⟩:=t.t.cov p hp;exact⟨y,(hm2 y).2 hy,q⟩,
  fun y hy z hz p=>t.t.one y ((hm2 y).1 hy) z ((hm2 z).1 hz) p,fun y hy=>t.t.bound y ((hm2 y).1 hy)⟩⟩
theorem oL.other {n:Int} {F T:List (Int×Int)} {x:Int×Int} (h:oL n F T x) {z:Int×Int} (hz:z∈F++T):z.1≠x.1:=fun e=>by
 have:=h.t.same (au _ hz) (aG ..) e
 subst this
 rcases aC.1 hz with q|q
 ·exact h.nf q
 ·exact h.ntk q
theorem oL.blk {n:Int} {F T:List (Int×Int)} {x:Int×Int} (h:oL n F T x):BlkI x:=h.t.blk (aG ..)
theorem oL.putT {n:Int} {F T:List (Int×Int)} {a k:Int} (h:oL n F T (a,k)):Inv n F (lT a k T):=by
 have hd: ∀z,z∈lT a k T↔z=(a,k)∨z∈T:=fun z=>by
  rw[uF h.ta]
  exact⟨fun q=>q.imp id And.left,fun q=>q.imp id fun r=>⟨r,h.other (aj _ r)⟩⟩
 refine⟨h.n1,h.n2,h.fa,h.ta.put _ _,h.t.congr fun z=> ?_,fun p hp q=> ?_,h.ap⟩
 ·simp only[aB,aC,hd]
  constructor
  ·rintro(q|q|q)
   ·exact .inr (.inl q)
   ·exact .inl q
   ·exact .inr (.inr q)
  ·rintro(q|q|q)
   ·exact .inr (.inl q)
   ·exact .inl q
   ·exact .inr (.inr q)
 ·rcases(hd p).1 q with rfl|q
  ·exact h.nf hp
  ·exact h.dis p hp q
theorem half_bud {a k:Int} (k0:0≤k) (k5:k≤5) (h:a % sz (k+1)=0):a % sz k=0∧vg a k=a+sz k∧xg a k=a∧vg (a+sz k) k=a∧(a+sz k) % sz k=0:=by
 have e:k=0∨k=1∨k=2∨k=3∨k=4∨k=5:=om
 unfold vg xg
 rcases e with rfl|rfl|rfl|rfl|rfl|rfl<;>simp only[sz0,sz1,sz2,sz3,sz4,sz5,sz6,show(0:Int)+1=1 from rfl,show(1:Int)+1=2 from rfl,show(2:Int)+1=3 from rfl,show(3:Int)+1=4 from rfl,show(4:Int)+1=5 from rfl,show(5:Int)+1=6 from rfl] at* <;>(refine⟨?_,?_,?_,?_,?_⟩<;>omega)
theorem oL.cut {n:Int} {F T:List (Int×Int)} {a k:Int} (k0:0≤k) (h:oL n F T (a,k+1)):oL n (lT (a+sz k) k F) T (a,k):=by
 obtain⟨b0,b1,b2,b3⟩:=h.blk
 have bn:=h.t.bound (aG ..)
 have sk:=jo k
 have n2:=h.n2
 simp only at b0 b1 b2 b3 bn
 have e2:=rC k0 om
 obtain⟨m1,m2,m3,m4,m5⟩:=half_bud k0 om b3
 have hno: ∀z:Int×Int,z∈F++T→∀p,yI p z→¬(a≤p∧p<a+sz (k+1)):=fun z hz p hp hq=>by
  have:=h.t.one (au _ hz) (aG ..) hp hq
  exact h.other hz (by rw[this])
 have hd: ∀z,z∈lT (a+sz k) k F↔z=(a+sz k,k)∨z∈F:=fun z=>by
  rw[uF h.fa]
  refine⟨fun q=>q.imp id And.left,fun q=>q.imp id fun r=>⟨r,fun e=> ?_⟩⟩
  exact hno z (av _ r) z.1 (vk z) ⟨om,om⟩
 have hlow:(a,k)∉F++T:=fun q=>hno _ q a (vk (a,k)) ⟨om,om⟩
 have hhigh:(a+sz k,k)∉F++T:=fun q=>hno _ q (a+sz k) (vk (a+sz k,k)) ⟨om,om⟩
 refine⟨h.n1,h.n2,h.fa.put _ _,h.ta,h.t.split (a:=a) (k:=k) k0 (aG ..) fun z=> ?_,fun p hp q=> ?_,fun q=> ?_,fun q=>hlow (aj _ q),fun y hy h6 hbad=> ?_⟩
 ·simp only[aB,aC,hd]
  constructor
  ·rintro(q|(q|q)|q)
   ·exact .inr (.inl q)
   ·exact .inr (.inr q)
   ·exact .inl ⟨.inr (.inl q),fun e=>h.nf (e▸q)⟩
   ·exact .inl ⟨.inr (.inr q),fun e=>h.ntk (e▸q)⟩
  ·rintro(⟨q|q|q,r⟩|q|q)
   ·exact absurd q r
   ·exact .inr (.inl (.inr q))
   ·exact .inr (.inr q)
   ·exact .inl q
   ·exact .inr (.inl (.inl q))
 ·rcases(hd p).1 hp with rfl|hp
  ·exact hhigh (aj _ q)
  ·exact h.dis p hp q
 ·rcases(hd _).1 q with e|q
  ·have:a=a+sz k:=congrArg Prod.fst e
   omega
  ·exact hlow (av _ q)
 ·rcases(hd y).1 hy with rfl|hy
  ·simp only[m4] at hbad
   rcases(hd _).1 hbad with e|q
   ·have:a=a+sz k:=congrArg Prod.fst e
    omega
   ·exact hlow (av _ q)
  ·rcases(hd _).1 hbad with e|hbad
   ·have e1:vg y.1 y.2=a+sz k:=congrArg Prod.fst e
    have e2':y.2=k:=congrArg Prod.snd e
    have by':=h.t.blk (au _ (av _ hy))
    have bny:=h.t.bound (au _ (av T hy))
    have:=jo y.2
    obtain⟨_,hinv,_⟩:=kin by'.1 om by'.2.1 om by'.2.2.2
    rw[e1,e2',m4] at hinv
    refine hlow (av _ ?_)
    have:y=(a,k):=Prod.ext hinv.symm e2'
    exact this▸hy
   ·exact h.ap y hy h6 hbad
theorem oL.down {n:Int} {T:List (Int×Int)} {a k:Int} (k0:0≤k): ∀(d:Nat) {F:List (Int×Int)},oL n F T (a,k+d)→oL n (oU d a k F) T (a,k)
 |0,F,h=>by simpa[oU] using h
 |d+1,F,h=>by
  unfold oU
  refine oL.down k0 d (oL.cut om ?_)
  have e:k+((d+1:Nat):Int)=k+d+1:=om
  rw[e] at h
  exact h
theorem Inv.take {n:Int} {F T:List (Int×Int)} (h:Inv n F T) {k:Int} (k0:0≤k) {x:Int×Int} (hx:jA k F=some x):Inv n (oV k x F) (lT x.1 k T):=by
 obtain⟨h1,h2⟩:=jq hx
 have hh:=h.hand h1
 obtain⟨a,m⟩:=x
 simp only at h2
 refine oL.putT (oL.down k0 _ ?_)
 rwa [show k+(((m-k).toNat:Nat):Int)=m by omega]
end
section
theorem Asc.len: ∀{l:List (Int×Int)} {a e:Int},Asc l→(∀p∈l,a≤p.1∧p.1<e)→a≤e→(l.length:Int)≤e-a
 |[],a,e,_,_,h=>by simp;omega
 |p::r,a,e,hA,hr,h=>by
  obtain⟨h1,h2⟩:=aZ.1 hA
  have hp:=hr p sI
  have:=Asc.len (a:=p.1+1) (e:=e) h2 (fun q hq=>⟨by have:=h1 q hq;omega,(hr q (by simp[hq])).2⟩) om
  simp only[cK]
  omega
theorem Inv.rngF {n:Int} {F T:List (Int×Int)} (h:Inv n F T) {p:Int×Int} (hp:p∈F):0≤p.1∧p.1<256∧0≤p.2∧p.2≤6:=by
 obtain⟨b0,b1,b2,_⟩:=h.t.blk (h.nY hp)
 have:=h.t.bound (h.nY hp)
 have:=jo p.2
 have:=h.n2
 exact⟨b0,om,b1,b2⟩
theorem Inv.rngT {n:Int} {F T:List (Int×Int)} (h:Inv n F T) {p:Int×Int} (hp:p∈T):0≤p.1∧p.1<256∧0≤p.2∧p.2≤6:=by
 obtain⟨b0,b1,b2,_⟩:=h.t.blk (h.memT hp)
 have:=h.t.bound (h.memT hp)
 have:=jo p.2
 have:=h.n2
 exact⟨b0,om,b1,b2⟩
theorem oL.rng {n:Int} {F T:List (Int×Int)} {x:Int×Int} (h:oL n F T x) {p:Int×Int} (hp:p∈x::(F++T)):0≤p.1∧p.1<256∧0≤p.2∧p.2≤6:=by
 obtain⟨b0,b1,b2,_⟩:=h.t.blk hp
 have:=h.t.bound hp
 have:=jo p.2
 have:=h.n2
 exact⟨b0,om,b1,b2⟩
theorem qc {l:List (Int×Int)} (hA:Asc l) (hr: ∀p∈l,0≤p.1∧p.1<256∧0≤p.2∧p.2≤6):l.length≤256:=by
 have:=hA.len (a:=0) (e:=256) (fun p hp=>⟨(hr p hp).1,(hr p hp).2.1⟩) om
 omega
theorem Inv.lenF {n:Int} {F T:List (Int×Int)} (h:Inv n F T):F.length≤256:=qc h.fa fun _=>h.rngF
theorem Chain.low {e:Int}: ∀{a:Int} {l:List (Int×Int)},Chain e a l→0≤a→∀x∈l,a≤x.1∧x.1+sz x.2≤e∧BlkI x
 |_,[],_,_,x,hx=>by cases hx
 |a,b::r,⟨h1,h2,h3,h4,h5,h6⟩,h0,x,hx=>by
  have:=jo b.2
  rcases aB.1 hx with rfl|hx
  ·exact⟨om,om,⟨om,h2,h3,by rw[h1];exact h4⟩⟩
  ·obtain⟨c1,c2,c3⟩:=Chain.low h6 om x hx
   exact⟨om,c2,c3⟩
theorem Chain.cov {e:Int}: ∀{a:Int} {l:List (Int×Int)},Chain e a l→∀p,a≤p→p<e→∃x∈l,yI p x
 |_,[],h,p,h1,h2=>by simp only[Chain] at h;omega
 |a,b::r,⟨h1,_,_,_,_,h6⟩,p,p1,p2=>by
  by_cases h:p<a+sz b.2
  ·exact⟨b,sI,⟨om,om⟩⟩
  ·obtain⟨x,hx,q⟩:=Chain.cov h6 p om p2
   exact⟨x,by simp[hx],q⟩
theorem Chain.asc {e:Int}: ∀{a:Int} {l:List (Int×Int)},Chain e a l→0≤a→l.Pairwise fun x y=>x.1+sz x.2≤y.1
 |_,[],_,_=>List.Pairwise.nil
 |a,b::r,⟨h1,_,_,_,_,h6⟩,h0=>by
  have:=jo b.2
  exact aZ.2 ⟨fun y hy=>by have:=(Chain.low h6 om y hy).1;omega,Chain.asc h6 om⟩
theorem TI.mk' {n:Int} {L:List (Int×Int)} (hb: ∀x∈L,BlkI x) (hc: ∀p,0≤p→p<n→∃x∈L,yI p x) (h1: ∀x∈L,∀y∈L,∀p,yI p x→yI p y→x=y) (hn: ∀x∈L,x.1+sz x.2≤n):TI n L:=by
 have nn: ∀x∈L,0≤x.1∧0≤x.2:=fun x hx=>⟨(hb x hx).1,(hb x hx).2.1⟩
 have back: ∀y∈L.map nt,∃x∈L,nt x=y:=fun y hy=>by simpa using hy
 refine⟨nn,⟨fun y hy=> ?_,fun p hp=> ?_,fun y hy z hz p py pz=> ?_,fun y hy=> ?_⟩⟩
 ·obtain⟨x,hx,rfl⟩:=back y hy
  exact blk_nt (hb x hx)
 ·obtain⟨x,hx,q⟩:=hc p om om
  refine⟨nt x,bR.2 ⟨x,hx,rfl⟩,?_⟩
  have:=(tJ (p:=p) (nn x hx) om).2 q
  simpa using this
 ·obtain⟨x,hx,rfl⟩:=back y hy
  obtain⟨x',hx',rfl⟩:=back z hz
  have q1:=(tJ (p:=(p:Int)) (nn x hx) om).1 (by simpa using py)
  have q2:=(tJ (p:=(p:Int)) (nn x' hx') om).1 (by simpa using pz)
  rw[h1 x hx x' hx' _ q1 q2]
 ·obtain⟨x,hx,rfl⟩:=back y hy
  have:=hn x hx
  have h0:=nn x hx
  rw[tH h0.2] at this
  show x.1.toNat+2 ^ x.2.toNat≤n.toNat
  omega
theorem vB {L:List (Int×Int)} (h:L.Pairwise fun x y=>x.1+sz x.2≤y.1): ∀x∈L,∀y∈L,∀p,yI p x→yI p y→x=y:=by
 induction h with
 |nil=>intro x hx;cases hx
 | @cons b r hb _ ih=>
   intro x hx y hy p px py
   unfold yI at px py
   rcases aB.1 hx with rfl|hx<;>rcases aB.1 hy with rfl|hy
   ·rfl
   ·have:=hb _ hy;omega
   ·have:=hb _ ‹_∈r›;omega
   ·exact ih x ‹_› y ‹_› p px py
theorem Chain.tiles {n:Int} {l:List (Int×Int)} (h:Chain n 0 l):TI n l:=
 TI.mk' (fun x hx=>(h.low (bZ _) x hx).2.2) (fun p p0 pn=>h.cov p p0 pn) (vB (h.asc (bZ _))) (fun x hx=>(h.low (bZ _) x hx).2.1)
theorem yM: ∀(f:Nat) (a n:Int),n.toNat≤f→∀x∈mq a n,x.2=nQ x.1 (a+n-x.1)∧x.1<a+n
 |0,a,n,h,x,hx=>by rw[jL om] at hx;cases hx
 |f+1,a,n,h,x,hx=>by
  by_cases h0:n≤0
  ·rw[jL h0] at hx;cases hx
  ·rw[mJ om] at hx
   have:=jo (nQ a n)
   rcases aB.1 hx with rfl|hx
   ·refine⟨?_,(show a<a+n by omega)⟩
    show nQ a n=nQ a (a+n-a)
    rw[show a+n-a=n by omega]
   ·obtain⟨c1,c2⟩:=yM f _ _ om x hx
    rw[show a+sz (nQ a n)+(n-sz (nQ a n))=a+n by omega] at c1 c2
    exact⟨c1,c2⟩
theorem cov_ap {n:Int} (n0:0≤n) (n2:n≤256):ApI (mq 0 n):=by
 have hch:=lG n.toNat 0 n (aI _) n0
 rw[show(0:Int)+n=n by omega] at hch
 have key: ∀a k:Int,(a,k)∈mq 0 n→k<6→a % sz (k+1)=0→(a+sz k,k)∉mq 0 n:=by
  intro a k h1 h6 hm h2
  obtain⟨_,k0,_,_⟩:=(hch.low (bZ _) _ h1).2.2
  have e:=(yM n.toNat 0 n (aI _) _ h1).1
  have hb:=(hch.low (bZ _) _ h2).2.1
  simp only at e hb k0
  have e2:=rC k0 om
  exact uz (a:=a) (n:=0+n-a) (k:=k+1) om om ⟨hm,om⟩
 intro x hx h6 hb
 obtain⟨a,k⟩:=x
 obtain⟨b1,b2,b0,k0,k6,hm⟩:=hch.low (bZ _) _ hx
 have sk:=jo k
 simp only at b1 b2 b0 k0 k6 hm h6 hb
 obtain⟨_,hinv,hpar,⟨_,_,p2⟩,hcase,_⟩:=kin b0 om k0 om hm
 rcases hcase with⟨c1,c2⟩|⟨c1,c2⟩
 ·rw[c1] at c2 p2
  exact key a k hx h6 p2 (c2▸hb)
 ·rw[c1] at c2 p2
  exact key _ k hb h6 p2 (by rw[←c2];exact hx)
theorem vC {L:List (Int×Int)} (h:L.Pairwise fun x y=>x.1+sz x.2≤y.1):Asc L:=h.imp fun {x y} q=>by have:=jo x.2;omega
theorem cov_asc {n:Int} (n0:0≤n):Asc (mq 0 n):=vC ((lG n.toNat 0 n (aI _) n0).asc (bZ _))
theorem Inv.start {n:Int} (n1:1≤n) (n2:n≤256):Inv n (mq 0 n) []:=by
 have hch:=lG n.toNat 0 n (aI _) om
 rw[show(0:Int)+n=n by omega] at hch
 exact⟨n1,n2,cov_asc om,List.Pairwise.nil,by rw[dM];exact hch.tiles,(fun _ _ h=>by cases h),cov_ap om n2⟩
theorem vD: ∀{l:List (Int×Int)} {a:Int} (k:Int),(∀p∈l,p.1<a)→lT a k l=l++[(a,k)]
 |[],_,_,_=>rfl
 |p::r,a,k,h=>by
  have:=h p sI
  unfold lT
  rw[if_neg om,if_neg om,vD k fun q hq=>h q (by simp[hq])]
  rfl
theorem jH: ∀l:List (Int×Int),0≤jM l
 |[]=>bZ _
 |x::r=>by have:=jH r;have:=jo x.2;simp only[jM];omega
theorem yN: ∀{l:List (Int×Int)} {a:Int} (k:Int),(∀p∈l,p.1≠a)→jM (lT a k l)=sz k+jM l
 |[],a,k,_=>by simp[lT,jM]
 |p::r,a,k,h=>by
  have h1:=h p sI
  unfold lT
  by_cases c:a<p.1
  ·rw[if_pos c];simp only[jM]
  ·rw[if_neg c,if_neg (fun e=>h1 e.symm)]
   have:=yN (l:=r) k fun q hq=>h q (au _ hq)
   simp only[jM];omega
theorem yO: ∀{l:List (Int×Int)} {x:Int×Int},Asc l→x∈l→jM (mD x.1 l)=jM l-sz x.2
 |[],x,_,h=>by cases h
 |p::r,x,hA,h=>by
  obtain⟨h1,h2⟩:=aZ.1 hA
  rcases aB.1 h with rfl|h
  ·have e:mD x.1 (x::r)=r:=by
    have:mD x.1 (x::r)=mD x.1 r:=by simp[mD]
    rw[this,mD,dQ.2 fun q hq=>by have:=h1 q hq;simp;omega]
   rw[e];simp only[jM];omega
  ·have:=h1 x h
   have e:mD x.1 (p::r)=p::mD x.1 r:=by
    have: ¬p.1=x.1:=om
    simp[mD,this]
   rw[e];simp only[jM,yO h2 h];omega
theorem vG {e:Int}: ∀{a:Int} {l:List (Int×Int)},Chain e a l→jM l=e-a
 |_,[],h=>by simp only[Chain] at h;simp[jM];omega
 |a,b::r,⟨_,_,_,_,_,h6⟩=>by simp only[jM,vG h6];omega
theorem sum_le {e:Int}: ∀{a:Int} {l:List (Int×Int)},a≤e→(l.Pairwise fun x y=>x.1+sz x.2≤y.1)→(∀x∈l,a≤x.1∧x.1+sz x.2≤e)→jM l≤e-a
 |a,[],h,_,_=>by simp[jM];omega
 |a,b::r,h,hP,hr=>by
  obtain⟨h1,h2⟩:=aZ.1 hP
  have hb:=hr b sI
  have:=sum_le (a:=b.1+sz b.2) (e:=e) om h2 fun x hx=>⟨h1 x hx,(hr x (by simp[hx])).2⟩
  simp only[jM];omega
theorem Bu {n:Int} {L l:List (Int×Int)} (t:TI n L) (hs: ∀x∈l,x∈L) (hA:Asc l):l.Pairwise fun x y=>x.1+sz x.2≤y.1:=by
 refine hA.imp_of_mem fun {x y} hx hy q=> ?_
 rcases Int.lt_or_le y.1 (x.1+sz x.2) with h|h
 ·have:=t.one (hs x hx) (hs y hy) (p:=y.1) ⟨om,h⟩ (vk y)
  rw[this] at q;omega
 ·exact h
theorem Inv.sumF {n:Int} {F T:List (Int×Int)} (h:Inv n F T):0≤jM F∧jM F≤n:=by
 refine⟨jH F,?_⟩
 have:=sum_le (a:=0) (e:=n) (by have:=h.n1;omega) (Bu h.t (fun x hx=>h.nY hx) h.fa) fun x hx=>⟨(h.rngF hx).1,h.t.bound (h.nY hx)⟩
 omega
theorem oL.yP {n:Int} {T:List (Int×Int)} {a k:Int} (k0:0≤k): ∀(d:Nat) {F:List (Int×Int)},oL n F T (a,k+d)→jM (oU d a k F)=jM F+sz (k+d)-sz k
 |0,F,_=>by simp[oU]
 |d+1,F,h=>by
  have e:k+((d+1:Nat):Int)=k+d+1:=om
  rw[e] at h
  have hc:=oL.cut om h
  have b2:=h.blk.2.2.1
  simp only at b2
  unfold oU
  rw[oL.yP k0 d hc,e,rC om om,yN _ fun p hp q=> ?_]
  ·omega
  ·have:=h.t.one (au _ (av _ hp)) (aG ..) (p:=p.1) (vk p)
    ⟨by have:=jo (k+d);omega,by show p.1<a+sz (k+d+1);have:=jo (k+d);have:=rC (k:=k+d) om om;omega⟩
   exact h.nf (this▸hp)
theorem Inv.yQ {n:Int} {F T:List (Int×Int)} (h:Inv n F T) {k:Int} (k0:0≤k) {x:Int×Int} (hx:jA k F=some x):jM (oV k x F)=jM F-sz k:=by
 obtain⟨h1,h2⟩:=jq hx
 have hh:=h.hand h1
 have hd:=yO h.fa h1
 obtain⟨a,m⟩:=x
 simp only at h2 hd
 have e:k+(((m-k).toNat:Nat):Int)=m:=om
 have:=oL.yP (a:=a) k0 (m-k).toNat (F:=mD a F) (T:=T) (n:=n) (by rw[e];exact hh)
 rw[e] at this
 show jM (oU (m-k).toNat a k (mD a F))=_
 omega
end
section
def bestTo (k:Int) (l:List (Int×Int)):Option (Nat×(Int×Int))→Prop:=fun
 |none=>∀x∈l,x.2<k
 |some (i,x)=>l[i]?=some x∧jA k l=some x
end
section
structure TS (n:Int) (F T:List (Int×Int)) (i k:Nat) (at':Int):Prop where
 i1:i≤F.length
 k1:k≤T.length
 a0:0≤at'
 a1:at'≤n
 fb: ∀x∈F.take i,x.1+sz x.2≤at'
 fa: ∀x∈F.drop i,at'≤x.1
 tb: ∀x∈T.take k,x.1+sz x.2≤at'
 ta: ∀x∈T.drop k,at'≤x.1
end
end Go.Proofs.YtdcbhlcbiokbeaaGreatDoor
