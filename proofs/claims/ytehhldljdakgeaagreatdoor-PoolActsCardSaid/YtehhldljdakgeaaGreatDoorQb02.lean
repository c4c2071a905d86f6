/- Lemmas. -/
import Derived.Test.YtehhldljdakgeaaGreatDoorQb01
set_option linter.unusedSimpArgs false
set_option linter.unusedVariables false
set_option maxHeartbeats 16000000
set_option maxRecDepth 100000
namespace Go.Proofs.YtehhldljdakgeaaGreatDoor
open Go.RowKit Go.Maps Go.Proofs.Tryz
attribute [local go_sem ↓] aJ aK
section
open Go.Shelf
def Tryz.keysA_ren:Go.Shelf.Ren:=⟨fun|7=>204|10=>209|n=>n,fun|23=>232|26=>3|3=>3|28=>167|0=>0|27=>166|33=>131|4=>4|n=>n,fun|n=>n⟩
theorem Tryz.keysA:Go.Proofs.SlLaysZI.n7 prog Tryz.keysA_ren:={
 mixed:=kR
 f7:=⟨Tryz.f204.name,by decide,Tryz.func204.trans (congrArg some kR)⟩
 f10:=⟨Tryz.f209.name,by decide,Tryz.func209.trans (congrArg some kR)⟩
 t0:=jB
 a0:=Tryz.isAgg0
 z0:=Tryz.sizeOf0
 v0:=jI
 t4:=jC
 a4:=Tryz.isAgg4
 z4:=Tryz.sizeOf4
 v4:=Tryz.zeroValue4
 t23:=iE
 a23:=Tryz.isAgg232
 z23:=Tryz.sizeOf232
 v23:=Tryz.zeroValue232
 t26:=bB
 a26:=gZ
 z26:=gK
 v26:=iX
 t27:=Tryz.underlying166
 a27:=Tryz.isAgg166
 z27:=Tryz.sizeOf166
 v27:=Tryz.zeroValue166
 t28:=Tryz.underlying167
 a28:=Tryz.isAgg167
 z28:=Tryz.sizeOf167
 v28:=Tryz.zeroValue167
 t33:=Tryz.underlying131
 a33:=Tryz.isAgg131
 z33:=Tryz.sizeOf131
 v33:=Tryz.zeroValue131}
def Tryz.sortedA_ren:Go.Shelf.Ren:=⟨fun|6=>80|8=>114|9=>115|11=>144|13=>146|12=>145|23=>181|24=>182|14=>172|15=>173|16=>174|17=>175|18=>176|19=>177|20=>178|21=>179|22=>180|25=>198|26=>199|27=>200|28=>201|29=>202|30=>152|31=>207|n=>n,fun|26=>3|28=>167|24=>59|0=>0|3=>3|37=>275|48=>310|50=>312|4=>4|40=>303|39=>302|45=>264|5=>5|9=>9|51=>325|55=>329|57=>334|58=>121|33=>131|n=>n,fun|n=>n⟩
theorem Tryz.sortedA:Go.Proofs.SlLaysZI.n6 prog Tryz.sortedA_ren:={
 mixed:=kR
 f6:=⟨Tryz.f80.name,by decide,Tryz.func80.trans (congrArg some kR)⟩
 f8:=⟨Tryz.f114.name,by decide,Tryz.func114.trans (congrArg some kR)⟩
 f11:=⟨Tryz.f144.name,by decide,Tryz.func144.trans (congrArg some kR)⟩
 t0:=jB
 a0:=Tryz.isAgg0
 z0:=Tryz.sizeOf0
 v0:=jI
 t24:=dK
 a24:=Tryz.isAgg59
 z24:=Tryz.sizeOf59
 v24:=Tryz.zeroValue59
 t26:=bB
 a26:=gZ
 z26:=gK
 v26:=iX
 t28:=Tryz.underlying167
 a28:=Tryz.isAgg167
 z28:=Tryz.sizeOf167
 v28:=Tryz.zeroValue167
 i26:=by kernel_rfl}
def Tryz.sortA_ren:Go.Shelf.Ren:=⟨fun|5=>115|8=>146|7=>145|19=>181|20=>182|10=>172|11=>173|12=>174|13=>175|14=>176|15=>177|16=>178|17=>179|18=>180|30=>198|31=>199|32=>200|33=>201|34=>202|35=>152|40=>207|n=>n,fun|23=>59|25=>3|3=>3|32=>275|22=>59|0=>0|44=>310|46=>312|4=>4|36=>303|35=>302|41=>264|5=>5|9=>9|53=>325|57=>329|63=>334|64=>121|n=>n,fun|n=>n⟩
theorem Tryz.sortA:Go.Proofs.SlLaysM.n5 prog Tryz.sortA_ren:={
 mixed:=kR
 f5:=⟨Tryz.f115.name,by decide,Tryz.func115.trans (congrArg some kR)⟩
 f7:=⟨Tryz.f145.name,by decide,Tryz.func145.trans (congrArg some kR)⟩
 f8:=Tryz.func146.trans (congrArg some kR)
 f10:=⟨Tryz.f172.name,by decide,Tryz.func172.trans (congrArg some kR)⟩
 f11:=⟨Tryz.f173.name,by decide,Tryz.func173.trans (congrArg some kR)⟩
 f12:=⟨Tryz.f174.name,by decide,Tryz.func174.trans (congrArg some kR)⟩
 f13:=⟨Tryz.f175.name,by decide,Tryz.func175.trans (congrArg some kR)⟩
 f14:=⟨Tryz.f176.name,by decide,Tryz.func176.trans (congrArg some kR)⟩
 f15:=⟨Tryz.f177.name,by decide,Tryz.func177.trans (congrArg some kR)⟩
 f16:=⟨Tryz.f178.name,by decide,Tryz.func178.trans (congrArg some kR)⟩
 f17:=⟨Tryz.f179.name,by decide,Tryz.func179.trans (congrArg some kR)⟩
 f18:=⟨Tryz.f180.name,by decide,Tryz.func180.trans (congrArg some kR)⟩
 f19:=Tryz.func181.trans (congrArg some kR)
 f20:=Tryz.func182.trans (congrArg some kR)
 f30:=⟨Tryz.f198.name,by decide,Tryz.func198.trans (congrArg some kR)⟩
 f31:=Tryz.func199.trans (congrArg some kR)
 f32:=Tryz.func200.trans (congrArg some kR)
 f33:=⟨Tryz.f201.name,by decide,Tryz.func201.trans (congrArg some kR)⟩
 f34:=⟨Tryz.f202.name,by decide,Tryz.func202.trans (congrArg some kR)⟩
 f35:=⟨Tryz.f152.name,by decide,Tryz.func152.trans (congrArg some kR)⟩
 f40:=⟨Tryz.f207.name,by decide,Tryz.func207.trans (congrArg some kR)⟩
 t0:=jB
 a0:=Tryz.isAgg0
 z0:=Tryz.sizeOf0
 v0:=jI
 t3:=bB
 a3:=gZ
 z3:=gK
 v3:=iX
 t4:=jC
 a4:=Tryz.isAgg4
 z4:=Tryz.sizeOf4
 v4:=Tryz.zeroValue4
 t5:=Tryz.underlying5
 a5:=Tryz.isAgg5
 z5:=Tryz.sizeOf5
 v5:=Tryz.zeroValue5
 t9:=iM
 a9:=Tryz.isAgg9
 z9:=Tryz.sizeOf9
 v9:=Tryz.zeroValue9
 t22:=dK
 a22:=Tryz.isAgg59
 z22:=Tryz.sizeOf59
 v22:=Tryz.zeroValue59
 t23:=dK
 a23:=Tryz.isAgg59
 z23:=Tryz.sizeOf59
 v23:=Tryz.zeroValue59
 t25:=bB
 a25:=gZ
 z25:=gK
 v25:=iX
 t32:=Tryz.underlying275
 a32:=Tryz.isAgg275
 z32:=Tryz.sizeOf275
 v32:=Tryz.zeroValue275
 t35:=Tryz.underlying302
 a35:=Tryz.isAgg302
 z35:=Tryz.sizeOf302
 v35:=Tryz.zeroValue302
 t36:=Tryz.underlying303
 a36:=Tryz.isAgg303
 z36:=Tryz.sizeOf303
 v36:=Tryz.zeroValue303
 t41:=Tryz.underlying264
 a41:=Tryz.isAgg264
 z41:=Tryz.sizeOf264
 v41:=Tryz.zeroValue264
 t44:=Tryz.underlying310
 a44:=Tryz.isAgg310
 z44:=Tryz.sizeOf310
 v44:=Tryz.zeroValue310
 t46:=Tryz.underlying312
 a46:=Tryz.isAgg312
 z46:=Tryz.sizeOf312
 v46:=Tryz.zeroValue312
 t53:=Tryz.underlying325
 a53:=Tryz.isAgg325
 z53:=Tryz.sizeOf325
 v53:=Tryz.zeroValue325
 t57:=Tryz.underlying329
 a57:=Tryz.isAgg329
 z57:=Tryz.sizeOf329
 v57:=Tryz.zeroValue329
 t63:=Tryz.underlying334
 a63:=Tryz.isAgg334
 z63:=Tryz.sizeOf334
 v63:=Tryz.zeroValue334
 t64:=Tryz.underlying121
 a64:=Tryz.isAgg121
 z64:=Tryz.sizeOf121
 v64:=Tryz.zeroValue121}
def Tryz.keysS_ren:Go.Shelf.Ren:=⟨fun|7=>81|10=>116|n=>n,fun|23=>158|26=>3|3=>155|28=>167|0=>0|27=>166|33=>131|4=>4|n=>n,fun|n=>n⟩
end
def sz (k:Int):Int:=2 ^ k.toNat
theorem AZ {k:Int} (h0:0≤k) (h6:k≤6):k=0∨k=1∨k=2∨k=3∨k=4∨k=5∨k=6:=om
theorem RV {k:Int} (h0:0≤k) (h6:k≤7):k=0∨k=1∨k=2∨k=3∨k=4∨k=5∨k=6∨k=7:=om
theorem sz0:sz 0=1:=rfl
theorem sz1:sz 1=2:=rfl
theorem sz2:sz 2=4:=rfl
theorem sz3:sz 3=8:=rfl
theorem sz4:sz 4=16:=rfl
theorem sz5:sz 5=32:=rfl
theorem sz6:sz 6=64:=rfl
theorem xS {k:Int} (h0:0≤k) (h6:k≤6):1≤sz k∧sz k≤64:=by
 rcases AZ h0 h6 with rfl|rfl|rfl|rfl|rfl|rfl|rfl<;>decide
theorem Uu {k:Int} (h0:0≤k) (h6:k≤7):1≤sz k∧sz k≤128:=by
 rcases RV h0 h6 with rfl|rfl|rfl|rfl|rfl|rfl|rfl|rfl<;>decide
theorem xU {k:Int} (h0:0≤k) (h6:k≤6):sz (k+1)=2*sz k:=by
 rcases AZ h0 h6 with rfl|rfl|rfl|rfl|rfl|rfl|rfl<;>decide
theorem xV {k:Int} (h0:0≤k) (h6:k≤6):wrap64 (2 ^ k.toNat)=sz k:=by
 unfold wrap64;rcases AZ h0 h6 with rfl|rfl|rfl|rfl|rfl|rfl|rfl<;>decide
theorem RY: ∀a:Fin 512,∀k:Fin 7,
 bits .and .i64 ((a.val:Nat):Int) (((2 ^ k.val:Nat):Int)-1)=(((a.val % 2 ^ k.val:Nat)):Int)
 ∧bits .xor .i64 ((a.val:Nat):Int) ((2 ^ k.val:Nat):Int)=(if a.val % (2*2 ^ k.val)<2 ^ k.val then((a.val:Nat):Int)+((2 ^ k.val:Nat):Int) else((a.val:Nat):Int)-((2 ^ k.val:Nat):Int))
 ∧bits .andNot .i64 ((a.val:Nat):Int) ((2 ^ k.val:Nat):Int)=(if a.val % (2*2 ^ k.val)<2 ^ k.val then((a.val:Nat):Int) else((a.val:Nat):Int)-((2 ^ k.val:Nat):Int)):=by
 decide+kernel
theorem bits_at {a k:Int} (h0:0≤a) (h1:a<512) (k0:0≤k) (k6:k≤6):
 bits .and .i64 a (sz k-1)=a % sz k
 ∧bits .xor .i64 a (sz k)=(if a % (2*sz k)<sz k then a+sz k else a-sz k)
 ∧bits .andNot .i64 a (sz k)=(if a % (2*sz k)<sz k then a else a-sz k):=by
 obtain⟨n,rfl⟩:=Int.eq_ofNat_of_zero_le h0;obtain⟨m,rfl⟩:=Int.eq_ofNat_of_zero_le k0;have t:=RY ⟨n,om⟩ ⟨m,om⟩;have e:sz (m:Int)=((2 ^ m:Nat):Int):=by simp[sz]
 have e2:(2:Int)*((2 ^ m:Nat):Int)=((2*2 ^ m:Nat):Int):=sI;rw[e,e2];simp only[←Int.natCast_emod,Int.ofNat_lt] at t ⊢;exact t
theorem and_sz {a k:Int} (h0:0≤a) (h1:a<512) (k0:0≤k) (k6:k≤6):bits .and .i64 a (sz k-1)=a % sz k:=(bits_at h0 h1 k0 k6).1
def rP (a k:Int):Nat:=if a<0∨256≤a∨k<0∨6<k then 2 else if a % sz k=0 then 0 else 3
def checkE (a k n:Int):Nat:=if n<1∨256<n∨k<0∨6<k∨a<0∨n-sz k<a then 2 else if a % sz k=0 then 0 else 3
def zx (a k:Int):Int:=if a % (2*sz k)<sz k then a else a-sz k
def Dc (a k:Int):Int:=if a % (2*sz k)<sz k then a+sz k else a-sz k
theorem zW (a k:Int):(rP a k=2∧(a<0∨256≤a∨k<0∨6<k))∨((0≤a∧a≤255∧0≤k∧k≤6)∧((rP a k=3∧a % sz k≠0)∨(rP a k=0∧a % sz k=0))):=by
 unfold rP;by_cases h:a<0∨256≤a∨k<0∨6<k
 ·exact .inl ⟨by rw[if_pos h],h⟩
 ·refine .inr ⟨om,?_⟩
  by_cases h2:a % sz k=0
  ·exact .inr ⟨by rw[if_neg h,if_pos h2],h2⟩
  ·exact .inl ⟨by rw[if_neg h,if_neg h2],h2⟩
def upE (a k:Int):Nat:=if rP a k=0 then(if k=6 then 4 else 0) else rP a k
def S9 (a k:Int):Nat:=if rP a k=0 then(if k=0 then 4 else 0) else rP a k
theorem Ji {a k:Int} (h:rP a k=0):0≤a∧a≤255∧0≤k∧k≤6∧a % sz k=0:=by
 rcases zW a k with⟨h2,_⟩|⟨⟨a0,a1,k0,k6⟩,⟨h2,_⟩|⟨_,h2⟩⟩
 ·omega
 ·omega
 ·exact⟨a0,a1,k0,k6,h2⟩
theorem DU {a k:Int} (h:S9 a k=0):rP a k=0∧k≠0:=by
 unfold S9 at h;by_cases h1:rP a k=0
 ·rw[if_pos h1] at h
  exact⟨h1,fun e=>by rw[if_pos e] at h;omega⟩
 ·rw[if_neg h1] at h;omega
theorem Uv {a k:Int} (a0:0≤a) (a1:a≤255) (k0:0≤k) (k6:k≤6) (h:a % sz k=0):rP a k=0:=by
 unfold rP;rw[if_neg om,if_pos h]
theorem downE_mk {a k:Int} (h:rP a k=0) (h6:k≠0):S9 a k=0:=by unfold S9;rw[if_pos h,if_neg h6]
theorem kin {a k:Int} (a0:0≤a) (a1:a≤255) (k0:0≤k) (k5:k≤5) (ha:a % sz k=0):
 (0≤Dc a k∧Dc a k≤255∧Dc a k % sz k=0)∧Dc (Dc a k) k=a∧zx (Dc a k) k=zx a k∧(0≤zx a k∧zx a k≤255∧zx a k % sz (k+1)=0)∧
 ((zx a k=a∧Dc a k=zx a k+sz k)∨(zx a k=Dc a k∧a=zx a k+sz k))∧zx a k=a / (2*sz k)*(2*sz k)∧(Dc a k=if zx a k=a then a+sz k else zx a k):=by
 have e:k=0∨k=1∨k=2∨k=3∨k=4∨k=5:=om;rcases e with rfl|rfl|rfl|rfl|rfl|rfl<;>simp only[Dc,zx,sz0,sz1,sz2,sz3,sz4,sz5,sz6,show(0:Int)+1=1 from rfl,show(1:Int)+1=2 from rfl,show(2:Int)+1=3 from rfl,show(3:Int)+1=4 from rfl,show(4:Int)+1=5 from rfl,show(5:Int)+1=6 from rfl] at* <;>(refine⟨⟨?_,?_,?_⟩,?_,?_,⟨?_,?_,?_⟩,?_,?_,?_⟩<;>omega)
theorem kin_p {a k:Int} (a0:0≤a) (a1:a≤255) (k0:0≤k) (k5:k≤5) (ha:a % sz k=0):0≤zx a k∧zx a k≤255:=by
 obtain⟨_,_,_,⟨p0,p1,_⟩,_⟩:=kin a0 a1 k0 k5 ha;exact⟨p0,p1⟩
theorem kin_q {a k:Int} (a0:0≤a) (a1:a≤255) (k0:0≤k) (k5:k≤5) (ha:a % sz k=0):a / sz (k+1)*sz (k+1)=zx a k:=by
 obtain⟨_,_,_,_,_,hp,_⟩:=kin a0 a1 k0 k5 ha;rw[xU k0 om];exact hp.symm
theorem kin_b {a k:Int} (a0:0≤a) (a1:a≤255) (k0:0≤k) (k5:k≤5) (ha:a % sz k=0):(zx a k=a∧Dc a k=a+sz k)∨(zx a k≠a∧Dc a k=zx a k):=by
 obtain⟨_,_,_,_,_,_,hb⟩:=kin a0 a1 k0 k5 ha;by_cases h:zx a k=a
 ·rw[if_pos h] at hb;exact .inl ⟨h,hb⟩
 ·rw[if_neg h] at hb;exact .inr ⟨h,hb⟩
def ordI (n:Int):Int:=if n≤1 then 0 else if n≤2 then 1 else if n≤4 then 2 else if n≤8 then 3 else if n≤16 then 4 else if n≤32 then 5 else 6
theorem sz_le64 {k:Int} (h0:0≤k) (h6:k≤6):sz k≤64:=(xS h0 h6).2
def xJ (a n:Int):Int:=if a % 64=0∧64≤n then 6 else if a % 32=0∧32≤n then 5 else if a % 16=0∧16≤n then 4 else if a % 8=0∧8≤n then 3 else if a % 4=0∧4≤n then 2 else if a % 2=0∧2≤n then 1 else 0
theorem wD (a n:Int):0≤xJ a n∧xJ a n≤6:=by
 unfold xJ
 (repeat' split)<;>omega
theorem Ba {a n:Int} (h:1≤n):a % sz (xJ a n)=0∧sz (xJ a n)≤n:=by
 unfold xJ
 (repeat' split)<;>simp only[sz0,sz1,sz2,sz3,sz4,sz5,sz6]<;>omega
theorem Fp {a n k:Int} (k6:k≤6) (h:xJ a n<k): ¬(a % sz k=0∧sz k≤n):=by
 have h0:=(wD a n).1;have e:k=1∨k=2∨k=3∨k=4∨k=5∨k=6:=om;unfold xJ at h;rcases e with rfl|rfl|rfl|rfl|rfl|rfl<;>simp only[sz1,sz2,sz3,sz4,sz5,sz6]<;>(repeat' split at h)<;>omega
theorem covO_min {a n k:Int} (k0:0≤k) (h:k≤xJ a n) (hn:1≤n):a % sz k=0∧sz k≤n:=by
 have h6:=(wD a n).2;have e:k=0∨k=1∨k=2∨k=3∨k=4∨k=5∨k=6:=om;unfold xJ at h;rcases e with rfl|rfl|rfl|rfl|rfl|rfl|rfl<;>simp only[sz0,sz1,sz2,sz3,sz4,sz5,sz6]<;>(repeat' split at h)<;>omega
def covF:Nat→Int→Int→List (Int×Int)
 |0,_,_=>[]
 |f+1,a,n=>if n≤0 then[] else(a,xJ a n)::covF f (a+sz (xJ a n)) (n-sz (xJ a n))
def wm (a n:Int):List (Int×Int):=covF n.toNat a n
theorem Bb: ∀(f g:Nat) (a n:Int),n.toNat≤f→n.toNat≤g→covF f a n=covF g a n
 |0,0,_,_,_,_=>rfl
 |0,g+1,a,n,hf,_=>by
  have:n≤0:=om;simp[covF,this]
 |f+1,0,a,n,_,hg=>by
  have:n≤0:=om;simp[covF,this]
 |f+1,g+1,a,n,hf,hg=>by
  unfold covF;by_cases h:n≤0
  ·rw[if_pos h,if_pos h]
  ·rw[if_neg h,if_neg h]
   have hb:=wD a n;have hs:=(xS hb.1 hb.2).1;rw[Bb f g _ _ om om]
theorem rQ {a n:Int} (h:n≤0):wm a n=[]:=by
 unfold wm;have:n.toNat=0:=om;rw[this];rfl
theorem wE {a n:Int} (h:1≤n):wm a n=(a,xJ a n)::wm (a+sz (xJ a n)) (n-sz (xJ a n)):=by
 have hb:=wD a n;have hs:=(xS hb.1 hb.2).1;unfold wm;obtain⟨f,hf⟩: ∃f,n.toNat=f+1:=⟨n.toNat-1,om⟩;rw[hf];show(if n≤0 then[] else _)=_;rw[if_neg om];rw[Bb f (n-sz (xJ a n)).toNat _ _ om (aI _)]
theorem xW: ∀(f:Nat) (a n:Int),n.toNat≤f→((wm a n).length:Int)≤n.toNat
 |0,a,n,h=>by rw[rQ om];exact Int.natCast_nonneg _
 |f+1,a,n,h=>by
  by_cases h0:n≤0
  ·rw[rQ h0];exact Int.natCast_nonneg _
  ·have hb:=wD a n
   have hs:=(xS hb.1 hb.2).1;rw[wE om];have:=xW f (a+sz (xJ a n)) (n-sz (xJ a n)) om;simp only[dB];omega
def Chain (e:Int):Int→List (Int×Int)→Prop
 |a,[]=>a=e
 |a,b::r=>b.1=a∧0≤b.2∧b.2≤6∧a % sz b.2=0∧a+sz b.2≤e∧Chain e (a+sz b.2) r
theorem uT: ∀(f:Nat) (a n:Int),n.toNat≤f→0≤n→Chain (a+n) a (wm a n)
 |0,a,n,h,hn=>by
  have:n=0:=om;subst this;rw[rQ om];simp[Chain]
 |f+1,a,n,h,hn=>by
  by_cases h0:n=0
  ·subst h0
   rw[rQ om];simp[Chain]
  ·have hb:=wD a n
   have hs:=(xS hb.1 hb.2).1;obtain⟨f1,f2⟩:=Ba (a:=a) (n:=n) om;rw[wE om];have:=uT f (a+sz (xJ a n)) (n-sz (xJ a n)) om om;refine⟨rfl,hb.1,hb.2,f1,(show a+sz (xJ a n)≤a+n by omega),?_⟩;rwa [show a+sz (xJ a n)+(n-sz (xJ a n))=a+n from om] at this
def Asc (l:List (Int×Int)):Prop:=l.Pairwise fun p q=>p.1<q.1
def zX (l:List (Int×Int)) (a:Int):Option Int:=(l.find? fun p=>p.1==a).map (·.2)
def tZ (a:Int) (l:List (Int×Int)):List (Int×Int):=l.filter fun p=>p.1 !=a
def rC (a k:Int):List (Int×Int)→List (Int×Int)
 |[]=>[(a,k)]
 |p::r=>if a<p.1 then(a,k)::p::r else if a=p.1 then(a,k)::r else p::rC a k r
theorem Asc.del {l:List (Int×Int)} (h:Asc l) (a:Int):Asc (tZ a l):=List.Pairwise.filter _ h
theorem Pm {l:List (Int×Int)} {a:Int} {p:Int×Int}:p∈tZ a l↔p∈l∧p.1≠a:=by simp[tZ]
theorem Fq: ∀{l:List (Int×Int)} {a k:Int} {p:Int×Int},p∈rC a k l→p=(a,k)∨p∈l
 |[],a,k,p,h=>by simpa[rC] using h
 |q::r,a,k,p,h=>by
  unfold rC at h;split at h
  ·simpa using h
  ·split at h
   ·rcases aB.1 h with h|h
    ·exact .inl h
    ·exact .inr (ak _ h)
   ·rcases aB.1 h with h|h
    ·exact .inr (by simp[h])
    ·rcases Fq h with h|h
     ·exact .inl h
     ·exact .inr (ak _ h)
theorem Asc.put: ∀{l:List (Int×Int)},Asc l→∀a k,Asc (rC a k l)
 |[],_,a,k=>by simp[rC,Asc]
 |q::r,h,a,k=>by
  obtain⟨h1,h2⟩:=bN.1 h;unfold rC;split
  ·refine bN.2 ⟨fun p hp=> ?_,h⟩
   rcases aB.1 hp with rfl|hp
   ·assumption
   ·have:=h1 p hp;show a<p.1;omega
  ·split
   ·rename_i e
    exact bN.2 ⟨fun p hp=>by have:=h1 p hp;show a<p.1;omega,h2⟩
   ·refine bN.2 ⟨fun p hp=> ?_,Asc.put h2 a k⟩
    rcases Fq hp with rfl|hp
    ·show q.1<a;omega
    ·exact h1 p hp
theorem pY (p:Int×Int) (l:List (Int×Int)) (a:Int):zX (p::l) a=if p.1=a then some p.2 else zX l a:=by
 unfold zX;by_cases h:p.1=a<;>simp[h]
theorem yE: ∀{l:List (Int×Int)} {a k:Int},zX l a=some k→(a,k)∈l
 |[],a,k,h=>by simp[zX] at h
 |p::r,a,k,h=>by
  rw[pY] at h;split at h
  ·rename_i e
   have:p.2=k:=aO h;have:p=(a,k):=by rw[←e,←this]
   simp[this]
  ·exact ak _ (yE h)
theorem Am: ∀{l:List (Int×Int)} {a k:Int},Asc l→(a,k)∈l→zX l a=some k
 |[],a,k,_,h=>by simp at h
 |p::r,a,k,hA,h=>by
  obtain⟨h1,h2⟩:=bN.1 hA;rw[pY];rcases aB.1 h with rfl|h
  ·simp
  ·rw[if_neg,Am h2 h]
   have:=h1 _ h;simp at this;omega
theorem Ao: ∀{l:List (Int×Int)} (a k b:Int),Asc l→zX (rC a k l) b=if a=b then some k else zX l b
 |[],a,k,b,_=>by rw[rC,pY]
 |p::r,a,k,b,h=>by
  obtain⟨h1,h2⟩:=bN.1 h;unfold rC;split
  ·rw[pY]
  ·split
   ·rename_i e
    rw[pY,pY];by_cases hb:a=b
    ·simp[hb]
    ·rw[if_neg (by simpa using hb),if_neg (by simpa using hb),if_neg om]
   ·rw[pY,pY,Ao a k b h2]
    by_cases hb:p.1=b
    ·rw[if_pos hb,if_pos hb,if_neg om]
    ·rw[if_neg hb,if_neg hb]
def Blk (x:Nat×Nat):Prop:=x.2≤6∧x.1 % 2 ^ x.2=0
def Inn (p:Nat) (x:Nat×Nat):Prop:=x.1≤p∧p<x.1+2 ^ x.2
instance (p:Nat) (x:Nat×Nat):Decidable (Inn p x):=inferInstanceAs (Decidable (_∧_))
def budN (x:Nat×Nat):Nat:=if x.1 / 2 ^ x.2 % 2=0 then x.1+2 ^ x.2 else x.1-2 ^ x.2
theorem Uw {k:Nat} (h:k≤6):(k=0∧2 ^ k=1)∨(k=1∧2 ^ k=2)∨(k=2∧2 ^ k=4)∨(k=3∧2 ^ k=8)∨(k=4∧2 ^ k=16)∨(k=5∧2 ^ k=32)∨(k=6∧2 ^ k=64):=by
 rcases k with _|_|_|_|_|_|_|k;all_goals first|omega|simp
structure Tiles (n:Nat) (L:List (Nat×Nat)):Prop where
 blk: ∀x∈L,Blk x
 cov: ∀p,p<n→∃x∈L,Inn p x
 one: ∀x∈L,∀y∈L,∀p,Inn p x→Inn p y→x=y
 bound: ∀x∈L,x.1+2 ^ x.2≤n
def Apart (L:List (Nat×Nat)):Prop:=∀x∈L,x.2<6→(budN x,x.2)∉L
theorem half_blk {a k:Nat} (h:Blk (a,k+1)):Blk (a,k)∧Blk (a+2 ^ k,k)∧∀p,Inn p (a,k+1)↔(Inn p (a,k)∨Inn p (a+2 ^ k,k)):=by
 obtain⟨hk,ha⟩:=h;unfold Blk Inn;simp only at*
 rcases Uw (show k≤6 by omega) with⟨rfl,e⟩|⟨rfl,e⟩|⟨rfl,e⟩|⟨rfl,e⟩|⟨rfl,e⟩|⟨rfl,e⟩|⟨rfl,e⟩;all_goals first
  |omega
  |(simp only[Nat.reduceAdd,Nat.reducePow] at*
    refine⟨⟨om,om⟩,⟨om,om⟩,fun p=>om⟩)
theorem DV {a k:Nat} (p:Nat):Inn p (a,k)→¬Inn p (a+2 ^ k,k):=by
 unfold Inn;simp only;omega
theorem Tiles.split {n:Nat} {L M:List (Nat×Nat)} (h:Tiles n L) {a k:Nat} (hx:(a,k+1)∈L)
 (hM: ∀z,z∈M↔(z∈L∧z≠(a,k+1))∨z=(a,k)∨z=(a+2 ^ k,k)):Tiles n M:=by
 obtain⟨b1,b2,hp⟩:=half_blk (h.blk _ hx);have hb:=h.bound _ hx;have e2:2 ^ (k+1)=2 ^ k+2 ^ k:=by rw[Nat.pow_succ];omega
 simp only[e2] at hb;have hpos:0<2 ^ k:=jd sI;refine⟨fun z hz=> ?_,fun p hpn=> ?_,fun x hx' y hy' p px py=> ?_,fun z hz=> ?_⟩
 ·rcases(hM z).1 hz with⟨h1,_⟩|rfl|rfl
  ·exact h.blk z h1
  ·exact b1
  ·exact b2
 ·obtain⟨z,hz,pz⟩:=h.cov p hpn
  by_cases e:z=(a,k+1)
  ·subst e
   rcases(hp p).1 pz with q|q
   ·exact⟨_,(hM _).2 (.inr (.inl rfl)),q⟩
   ·exact⟨_,(hM _).2 (.inr (.inr rfl)),q⟩
  ·exact⟨z,(hM z).2 (.inl ⟨hz,e⟩),pz⟩
 ·rcases(hM x).1 hx' with⟨h1,n1⟩|rfl|rfl<;>rcases(hM y).1 hy' with⟨h2,n2⟩|rfl|rfl
  ·exact h.one x h1 y h2 p px py
  ·exact absurd (h.one x h1 _ hx p px ((hp p).2 (.inl py))) n1
  ·exact absurd (h.one x h1 _ hx p px ((hp p).2 (.inr py))) n1
  ·exact absurd (h.one y h2 _ hx p py ((hp p).2 (.inl px))) n2
  ·rfl
  ·exact absurd py (DV p px)
  ·exact absurd (h.one y h2 _ hx p py ((hp p).2 (.inr px))) n2
  ·exact absurd px (DV p py)
  ·rfl
 ·rcases(hM z).1 hz with⟨h1,_⟩|rfl|rfl
  ·exact h.bound z h1
  ·show a+2 ^ k≤n;omega
  ·show a+2 ^ k+2 ^ k≤n;omega
def nt (p:Int×Int):Nat×Nat:=(p.1.toNat,p.2.toNat)
theorem nt_inj {p q:Int×Int} (hp:0≤p.1∧0≤p.2) (hq:0≤q.1∧0≤q.2) (h:nt p=nt q):p=q:=by
 obtain⟨a,k⟩:=p;obtain⟨b,m⟩:=q;simp only[nt,Prod.mk.injEq] at*
 exact⟨om,om⟩
theorem DW {k:Int} (_:0≤k):sz k=((2 ^ k.toNat:Nat):Int):=by simp[sz]
theorem qh (k:Int):1≤sz k:=by
 have:0<2 ^ k.toNat:=jd sI;have e:sz k=((2 ^ k.toNat:Nat):Int):=by simp[sz]
 omega
def BlkI (x:Int×Int):Prop:=0≤x.1∧0≤x.2∧x.2≤6∧x.1 % sz x.2=0
def Pn (p:Int) (x:Int×Int):Prop:=x.1≤p∧p<x.1+sz x.2
structure TI (n:Int) (L:List (Int×Int)):Prop where
 nn: ∀x∈L,0≤x.1∧0≤x.2
 t:Tiles n.toNat (L.map nt)
def ApI (L:List (Int×Int)):Prop:=∀x∈L,x.2<6→(Dc x.1 x.2,x.2)∉L
theorem TI.mem {n:Int} {L:List (Int×Int)} (_:TI n L) {x:Int×Int} (hx:x∈L):nt x∈L.map nt:=bC.2 ⟨x,hx,rfl⟩
theorem blkI_of {x:Int×Int} (h0:0≤x.1∧0≤x.2) (h:Blk (nt x)):BlkI x:=by
 obtain⟨a,k⟩:=x;obtain⟨h1,h2⟩:=h;simp only[nt] at*
 refine⟨h0.1,h0.2,(by show k≤6;omega),?_⟩;show a % sz k=0;rw[DW h0.2,show a=((a.toNat:Nat):Int) by omega,←Int.natCast_emod,h2];rfl
theorem blk_nt {x:Int×Int} (h:BlkI x):Blk (nt x):=by
 obtain⟨a,k⟩:=x;obtain⟨h0,h1,h2,h3⟩:=h;simp only[nt] at*
 refine⟨(by show k.toNat≤6;omega),?_⟩;show a.toNat % 2 ^ k.toNat=0;rw[DW h1,show a=((a.toNat:Nat):Int) by omega,←Int.natCast_emod] at h3;exact Int.ofNat.inj h3
theorem DX {p:Int} {x:Int×Int} (h0:0≤x.1∧0≤x.2) (hp:0≤p):Inn p.toNat (nt x)↔Pn p x:=by
 unfold Inn Pn nt;rw[DW h0.2];simp only;omega
theorem TI.blk {n:Int} {L:List (Int×Int)} (h:TI n L) {x:Int×Int} (hx:x∈L):BlkI x:=blkI_of (h.nn x hx) (h.t.blk _ (h.mem hx))
theorem TI.bound {n:Int} {L:List (Int×Int)} (h:TI n L) {x:Int×Int} (hx:x∈L):x.1+sz x.2≤n:=by
 have:=h.t.bound _ (h.mem hx);have h0:=h.nn x hx;simp only[nt] at this;have hpos:0<2 ^ x.2.toNat:=jd sI;rw[DW h0.2];omega
theorem TI.cov {n:Int} {L:List (Int×Int)} (h:TI n L) {p:Int} (p0:0≤p) (pn:p<n): ∃x∈L,Pn p x:=by
 obtain⟨y,hy,py⟩:=h.t.cov p.toNat om;obtain⟨x,hx,rfl⟩:=bC.1 hy;exact⟨x,hx,(DX (h.nn x hx) p0).1 py⟩
theorem TI.one {n:Int} {L:List (Int×Int)} (h:TI n L) {x y:Int×Int} (hx:x∈L) (hy:y∈L) {p:Int} (px:Pn p x) (py:Pn p y):x=y:=by
 have p0:0≤p:=by have:=(h.nn x hx).1;have:=px.1;omega
 exact nt_inj (h.nn x hx) (h.nn y hy) (h.t.one _ (h.mem hx) _ (h.mem hy) p.toNat ((DX (h.nn x hx) p0).2 px) ((DX (h.nn y hy) p0).2 py))
theorem TI.same {n:Int} {L:List (Int×Int)} (h:TI n L) {x y:Int×Int} (hx:x∈L) (hy:y∈L) (e:x.1=y.1):x=y:=
 h.one hx hy (p:=x.1) ⟨bZ _,by have:=qh x.2;omega⟩ ⟨om,by have:=qh y.2;omega⟩
theorem nt_iff {M:List (Int×Int)} {P:Int×Int→Prop} {Q:Nat×Nat→Prop} (hM: ∀z,z∈M↔P z) (hPQ: ∀z,P z→Q (nt z)) (hQP: ∀y,Q y→∃z,nt z=y∧P z):
 ∀y,y∈M.map nt↔Q y:=by
 intro y;constructor
 ·intro h
  obtain⟨z,hz,rfl⟩:=bC.1 h;exact hPQ z ((hM z).1 hz)
 ·intro h
  obtain⟨z,rfl,hz⟩:=hQP y h;exact bC.2 ⟨z,(hM z).2 hz,rfl⟩
theorem TI.split {n:Int} {L M:List (Int×Int)} (h:TI n L) {a k:Int} (k0:0≤k) (hx:(a,k+1)∈L)
 (hM: ∀z,z∈M↔(z∈L∧z≠(a,k+1))∨z=(a,k)∨z=(a+sz k,k)):TI n M:=by
 have a0:=(h.nn _ hx).1;simp only at a0;have sk:=qh k;have nnM: ∀z∈M,0≤z.1∧0≤z.2:=fun z hz=>by
  rcases(hM z).1 hz with⟨h1,_⟩|rfl|rfl
  ·exact h.nn z h1
  ·exact⟨a0,k0⟩
  ·exact⟨(show(0:Int)≤a+sz k by omega),k0⟩
 have e1:nt (a,k+1)=(a.toNat,k.toNat+1):=by simp only[nt,Prod.mk.injEq];exact⟨trivial,om⟩
 have hsn:=DW k0;have e2:nt (a+sz k,k)=(a.toNat+2 ^ k.toNat,k.toNat):=by
  simp only[nt,Prod.mk.injEq];exact⟨om,trivial⟩
 refine⟨nnM,h.t.split (a:=a.toNat) (k:=k.toNat) (e1▸h.mem hx) ?_⟩;refine nt_iff (P:=fun z=>(z∈L∧z≠(a,k+1))∨z=(a,k)∨z=(a+sz k,k)) hM ?_ ?_
 ·rintro z (⟨h1,h2⟩|rfl|rfl)
  ·exact .inl ⟨h.mem h1,fun e=>h2 (nt_inj (h.nn z h1) (h.nn _ hx) (e.trans e1.symm))⟩
  ·exact .inr (.inl rfl)
  ·exact .inr (.inr e2)
 ·rintro y (⟨h1,h2⟩|rfl|rfl)
  ·obtain⟨z,hz,rfl⟩:=bC.1 h1
   exact⟨z,rfl,.inl ⟨hz,fun e=>h2 (by rw[e,e1])⟩⟩
  ·exact⟨(a,k),rfl,.inr (.inl rfl)⟩
  ·exact⟨(a+sz k,k),e2,.inr (.inr rfl)⟩
def Ae (x:Int×Int):List (Int×Int)→Int×Int
 |[]=>x
 |y::r=>Ae (if y.2<x.2 then y else x) r
def Df (k:Int) (F:List (Int×Int)):List (Int×Int):=F.filter fun p=> !decide (p.2<k)
def nD (k:Int) (F:List (Int×Int)):Option (Int×Int):=match Df k F with|[]=>none|x::r=>some (Ae x r)
def uU:Nat→Int→Int→List (Int×Int)→List (Int×Int)
 |0,_,_,F=>F
 |d+1,a,k,F=>uU d a k (rC (a+sz (k+d)) (k+d) F)
def upF:Nat→Int→Int→List (Int×Int)→(Int×Int)×List (Int×Int)
 |0,a,k,F=>((a,k),F)
 |f+1,a,k,F=>if zX F (Dc a k)=some k then upF f (zx a k) (k+1) (tZ (Dc a k) F) else((a,k),F)
def uz (k:Int) (x:Int×Int) (F:List (Int×Int)):List (Int×Int):=uU (x.2-k).toNat x.1 k (tZ x.1 F)
def giveF (a k:Int) (F:List (Int×Int)):List (Int×Int):=rC (upF (6-k).toNat a k F).1.1 (upF (6-k).toNat a k F).1.2 (upF (6-k).toNat a k F).2
def oJ:List (Int×Int)→Int
 |[]=>0
 |x::r=>sz x.2+oJ r
theorem Pp: ∀(x:Int×Int) (r:List (Int×Int)),Ae x r∈x::r
 |x,[]=>by simp[Ae]
 |x,y::r=>by
  unfold Ae;rcases aB.1 (Pp (if y.2<x.2 then y else x) r) with h|h
  ·rw[h]
   split<;>simp
  ·exact ak _ (ak _ h)
theorem Pq {k:Int} {F:List (Int×Int)} {p:Int×Int}:p∈Df k F↔p∈F∧k≤p.2:=by simp[Df]
theorem oG {k:Int} {F:List (Int×Int)} {x:Int×Int} (h:nD k F=some x):x∈F∧k≤x.2:=by
 unfold nD at h;split at h
 ·cases h
 ·rename_i y r e
  obtain rfl:=aO h;exact Pq.1 (e▸Pp y r)
theorem DY {k:Int} {F:List (Int×Int)} (h:nD k F=none): ∀p∈F,p.2<k:=by
 intro p hp;unfold nD at h;split at h
 ·rename_i e
  rcases Int.lt_or_le p.2 k with h'|h'
  ·exact h'
  ·have:=Pq.2 ⟨hp,h'⟩
   rw[e] at this;cases this
 ·cases h
theorem Ux {l:List (Int×Int)} (h:Asc l) (z:Int×Int):z∈l↔zX l z.1=some z.2:=⟨fun hz=>Am h hz,fun hz=>yE hz⟩
theorem Fu {l:List (Int×Int)} (h:Asc l) {a k:Int} {z:Int×Int}:z∈rC a k l↔z=(a,k)∨(z∈l∧z.1≠a):=by
 obtain⟨b,m⟩:=z;rw[Ux (h.put a k),Ao a k _ h,Ux h];simp only[Prod.mk.injEq];by_cases e:a=b
 ·subst e
  rw[if_pos rfl];constructor
  ·intro q;exact .inl ⟨rfl,(aO q).symm⟩
  ·rintro(⟨_,q⟩|⟨_,q⟩)
   ·rw[q]
   ·exact absurd rfl q
 ·rw[if_neg e]
  constructor
  ·intro q;exact .inr ⟨q,fun x=>e x.symm⟩
  ·rintro(⟨q,_⟩|⟨q,_⟩)
   ·exact absurd q.symm e
   ·exact q
structure Inv (n:Int) (F T:List (Int×Int)):Prop where
 n1:1≤n
 n2:n≤256
 fa:Asc F
 ta:Asc T
 t:TI n (F++T)
 dis: ∀p∈F,p∉T
 ap:ApI F
structure wF (n:Int) (F T:List (Int×Int)) (x:Int×Int):Prop where
 n1:1≤n
 n2:n≤256
 fa:Asc F
 ta:Asc T
 t:TI n (x::(F++T))
 dis: ∀p∈F,p∉T
 nf:x∉F
 ntk:x∉T
 ap:ApI F
theorem DZ (x:Int×Int):Pn x.1 x:=⟨bZ _,by have:=qh x.2;omega⟩
theorem Inv.sU {n:Int} {F T:List (Int×Int)} (_:Inv n F T) {x:Int×Int} (hx:x∈F):x∈F++T:=av _ hx
theorem Inv.memT {n:Int} {F T:List (Int×Int)} (_:Inv n F T) {x:Int×Int} (hx:x∈T):x∈F++T:=aj _ hx
theorem Inv.hand {n:Int} {F T:List (Int×Int)} (h:Inv n F T) {x:Int×Int} (hx:x∈F):wF n (tZ x.1 F) T x:=by
 have hd: ∀z,z∈tZ x.1 F↔z∈F∧z≠x:=fun z=>by
  rw[Pm];exact⟨fun⟨q,r⟩=>⟨q,fun e=>r (by rw[e])⟩,fun⟨q,r⟩=>⟨q,fun e=>r (h.t.same (h.sU q) (h.sU hx) e)⟩⟩
 refine⟨h.n1,h.n2,h.fa.del _,h.ta,?_,fun p hp=>h.dis p ((hd p).1 hp).1,fun q=>((hd x).1 q).2 rfl,h.dis x hx,fun y hy h6 hb=>h.ap y ((hd y).1 hy).1 h6 ((hd _).1 hb).1⟩;have hm: ∀z,z∈x::(tZ x.1 F++T)↔z∈F++T:=fun z=>by
  simp only[aB,aD,hd];constructor
  ·rintro(rfl|⟨q,_⟩|q)
   ·exact .inl hx
   ·exact .inl q
   ·exact .inr q
  ·rintro(q|q)
   ·by_cases e:z=x
    ·exact .inl e
    ·exact .inr (.inl ⟨q,e⟩)
   ·exact .inr (.inr q)
 have t:=h.t;have hm2: ∀y,y∈(x::(tZ x.1 F++T)).map nt↔y∈(F++T).map nt:=fun y=>by
  simp only[bC,hm]
 exact⟨fun z hz=>t.nn z ((hm z).1 hz),⟨fun y hy=>t.t.blk y ((hm2 y).1 hy),fun p hp=>by obtain⟨y,hy,q⟩:=t.t.cov p hp;exact⟨y,(hm2 y).2 hy,q⟩,
  fun y hy z hz p=>t.t.one y ((hm2 y).1 hy) z ((hm2 z).1 hz) p,fun y hy=>t.t.bound y ((hm2 y).1 hy)⟩⟩
theorem TI.congr {n:Int} {L M:List (Int×Int)} (t:TI n L) (hm: ∀z,z∈M↔z∈L):TI n M:=by
 have hm2: ∀y,y∈M.map nt↔y∈L.map nt:=fun y=>by simp only[bC,hm]
 exact⟨fun z hz=>t.nn z ((hm z).1 hz),⟨fun y hy=>t.t.blk y ((hm2 y).1 hy),fun p hp=>by obtain⟨y,hy,q⟩:=t.t.cov p hp;exact⟨y,(hm2 y).2 hy,q⟩,
  fun y hy z hz p=>t.t.one y ((hm2 y).1 hy) z ((hm2 z).1 hz) p,fun y hy=>t.t.bound y ((hm2 y).1 hy)⟩⟩
theorem wF.other {n:Int} {F T:List (Int×Int)} {x:Int×Int} (h:wF n F T x) {z:Int×Int} (hz:z∈F++T):z.1≠x.1:=fun e=>by
 have:=h.t.same (ak _ hz) (aG ..) e;subst this;rcases aD.1 hz with q|q
 ·exact h.nf q
 ·exact h.ntk q
theorem wF.blk {n:Int} {F T:List (Int×Int)} {x:Int×Int} (h:wF n F T x):BlkI x:=h.t.blk (aG ..)
theorem wF.putT {n:Int} {F T:List (Int×Int)} {a k:Int} (h:wF n F T (a,k)):Inv n F (rC a k T):=by
 have hd: ∀z,z∈rC a k T↔z=(a,k)∨z∈T:=fun z=>by
  rw[Fu h.ta];exact⟨fun q=>q.imp id And.left,fun q=>q.imp id fun r=>⟨r,h.other (aj _ r)⟩⟩
 refine⟨h.n1,h.n2,h.fa,h.ta.put _ _,h.t.congr fun z=> ?_,fun p hp q=> ?_,h.ap⟩
 ·simp only[aB,aD,hd]
  constructor
  ·rintro(q|q|q)
   ·exact .inr (.inl q)
   ·exact .inl q
   ·exact .inr (.inr q)
  ·rintro(q|q|q)
   ·exact .inr (.inl q)
   ·exact .inl q
   ·exact .inr (.inr q)
 ·rcases(hd p).1 q with rfl|q
  ·exact h.nf hp
  ·exact h.dis p hp q
theorem Pt {a k:Int} (k0:0≤k) (k5:k≤5) (h:a % sz (k+1)=0):a % sz k=0∧Dc a k=a+sz k∧zx a k=a∧Dc (a+sz k) k=a∧(a+sz k) % sz k=0:=by
 have e:k=0∨k=1∨k=2∨k=3∨k=4∨k=5:=om;unfold Dc zx;rcases e with rfl|rfl|rfl|rfl|rfl|rfl<;>simp only[sz0,sz1,sz2,sz3,sz4,sz5,sz6,show(0:Int)+1=1 from rfl,show(1:Int)+1=2 from rfl,show(2:Int)+1=3 from rfl,show(3:Int)+1=4 from rfl,show(4:Int)+1=5 from rfl,show(5:Int)+1=6 from rfl] at* <;>(refine⟨?_,?_,?_,?_,?_⟩<;>omega)
theorem wF.cut {n:Int} {F T:List (Int×Int)} {a k:Int} (k0:0≤k) (h:wF n F T (a,k+1)):wF n (rC (a+sz k) k F) T (a,k):=by
 obtain⟨b0,b1,b2,b3⟩:=h.blk;have bn:=h.t.bound (aG ..);have sk:=qh k;have n2:=h.n2;simp only at b0 b1 b2 b3 bn;have e2:=xU k0 om;obtain⟨m1,m2,m3,m4,m5⟩:=Pt k0 om b3;have hno: ∀z:Int×Int,z∈F++T→∀p,Pn p z→¬(a≤p∧p<a+sz (k+1)):=fun z hz p hp hq=>by
  have:=h.t.one (ak _ hz) (aG ..) hp hq;exact h.other hz (by rw[this])
 have hd: ∀z,z∈rC (a+sz k) k F↔z=(a+sz k,k)∨z∈F:=fun z=>by
  rw[Fu h.fa];refine⟨fun q=>q.imp id And.left,fun q=>q.imp id fun r=>⟨r,fun e=> ?_⟩⟩;exact hno z (av _ r) z.1 (DZ z) ⟨om,om⟩
 have hlow:(a,k)∉F++T:=fun q=>hno _ q a (DZ (a,k)) ⟨om,om⟩
 have hhigh:(a+sz k,k)∉F++T:=fun q=>hno _ q (a+sz k) (DZ (a+sz k,k)) ⟨om,om⟩
 refine⟨h.n1,h.n2,h.fa.put _ _,h.ta,h.t.split (a:=a) (k:=k) k0 (aG ..) fun z=> ?_,fun p hp q=> ?_,fun q=> ?_,fun q=>hlow (aj _ q),fun y hy h6 hbad=> ?_⟩
 ·simp only[aB,aD,hd]
  constructor
  ·rintro(q|(q|q)|q)
   ·exact .inr (.inl q)
   ·exact .inr (.inr q)
   ·exact .inl ⟨.inr (.inl q),fun e=>h.nf (e▸q)⟩
   ·exact .inl ⟨.inr (.inr q),fun e=>h.ntk (e▸q)⟩
  ·rintro(⟨q|q|q,r⟩|q|q)
   ·exact absurd q r
   ·exact .inr (.inl (.inr q))
   ·exact .inr (.inr q)
   ·exact .inl q
   ·exact .inr (.inl (.inl q))
 ·rcases(hd p).1 hp with rfl|hp
  ·exact hhigh (aj _ q)
  ·exact h.dis p hp q
 ·rcases(hd _).1 q with e|q
  ·have:a=a+sz k:=congrArg Prod.fst e
   omega
  ·exact hlow (av _ q)
 ·rcases(hd y).1 hy with rfl|hy
  ·simp only[m4] at hbad
   rcases(hd _).1 hbad with e|q
   ·have:a=a+sz k:=congrArg Prod.fst e
    omega
   ·exact hlow (av _ q)
  ·rcases(hd _).1 hbad with e|hbad
   ·have e1:Dc y.1 y.2=a+sz k:=congrArg Prod.fst e
    have e2':y.2=k:=congrArg Prod.snd e;have by':=h.t.blk (ak _ (av _ hy));have bny:=h.t.bound (ak _ (av T hy));have:=qh y.2;obtain⟨_,hinv,_⟩:=kin by'.1 om by'.2.1 om by'.2.2.2;rw[e1,e2',m4] at hinv;refine hlow (av _ ?_);have:y=(a,k):=Prod.ext hinv.symm e2';exact this▸hy
   ·exact h.ap y hy h6 hbad
theorem wF.down {n:Int} {T:List (Int×Int)} {a k:Int} (k0:0≤k): ∀(d:Nat) {F:List (Int×Int)},wF n F T (a,k+d)→wF n (uU d a k F) T (a,k)
 |0,F,h=>by simpa[uU] using h
 |d+1,F,h=>by
  unfold uU;refine wF.down k0 d (wF.cut om ?_);have e:k+((d+1:Nat):Int)=k+d+1:=om;rw[e] at h;exact h
theorem Inv.take {n:Int} {F T:List (Int×Int)} (h:Inv n F T) {k:Int} (k0:0≤k) {x:Int×Int} (hx:nD k F=some x):Inv n (uz k x F) (rC x.1 k T):=by
 obtain⟨h1,h2⟩:=oG hx;have hh:=h.hand h1;obtain⟨a,m⟩:=x;simp only at h2;refine wF.putT (wF.down k0 _ ?_);rwa [show k+(((m-k).toNat:Nat):Int)=m by omega]
theorem Asc.len: ∀{l:List (Int×Int)} {a e:Int},Asc l→(∀p∈l,a≤p.1∧p.1<e)→a≤e→(l.length:Int)≤e-a
 |[],a,e,_,_,h=>by simp;omega
 |p::r,a,e,hA,hr,h=>by
  obtain⟨h1,h2⟩:=bN.1 hA;have hp:=hr p sI;have:=Asc.len (a:=p.1+1) (e:=e) h2 (fun q hq=>⟨by have:=h1 q hq;omega,(hr q (by simp[hq])).2⟩) om;simp only[dB];omega
theorem Inv.rngF {n:Int} {F T:List (Int×Int)} (h:Inv n F T) {p:Int×Int} (hp:p∈F):0≤p.1∧p.1<256∧0≤p.2∧p.2≤6:=by
 obtain⟨b0,b1,b2,_⟩:=h.t.blk (h.sU hp);have:=h.t.bound (h.sU hp);have:=qh p.2;have:=h.n2;exact⟨b0,om,b1,b2⟩
theorem Inv.rngT {n:Int} {F T:List (Int×Int)} (h:Inv n F T) {p:Int×Int} (hp:p∈T):0≤p.1∧p.1<256∧0≤p.2∧p.2≤6:=by
 obtain⟨b0,b1,b2,_⟩:=h.t.blk (h.memT hp);have:=h.t.bound (h.memT hp);have:=qh p.2;have:=h.n2;exact⟨b0,om,b1,b2⟩
theorem wF.rng {n:Int} {F T:List (Int×Int)} {x:Int×Int} (h:wF n F T x) {p:Int×Int} (hp:p∈x::(F++T)):0≤p.1∧p.1<256∧0≤p.2∧p.2≤6:=by
 obtain⟨b0,b1,b2,_⟩:=h.t.blk hp;have:=h.t.bound hp;have:=qh p.2;have:=h.n2;exact⟨b0,om,b1,b2⟩
theorem tN {l:List (Int×Int)} (hA:Asc l) (hr: ∀p∈l,0≤p.1∧p.1<256∧0≤p.2∧p.2≤6):l.length≤256:=by
 have:=hA.len (a:=0) (e:=256) (fun p hp=>⟨(hr p hp).1,(hr p hp).2.1⟩) om;omega
theorem Inv.lenF {n:Int} {F T:List (Int×Int)} (h:Inv n F T):F.length≤256:=tN h.fa fun _=>h.rngF
theorem Inv.lenT {n:Int} {F T:List (Int×Int)} (h:Inv n F T):T.length≤256:=tN h.ta fun _=>h.rngT
theorem Chain.low {e:Int}: ∀{a:Int} {l:List (Int×Int)},Chain e a l→0≤a→∀x∈l,a≤x.1∧x.1+sz x.2≤e∧BlkI x
 |_,[],_,_,x,hx=>by cases hx
 |a,b::r,⟨h1,h2,h3,h4,h5,h6⟩,h0,x,hx=>by
  have:=qh b.2;rcases aB.1 hx with rfl|hx
  ·exact⟨om,om,⟨om,h2,h3,by rw[h1];exact h4⟩⟩
  ·obtain⟨c1,c2,c3⟩:=Chain.low h6 om x hx
   exact⟨om,c2,c3⟩
theorem Chain.cov {e:Int}: ∀{a:Int} {l:List (Int×Int)},Chain e a l→∀p,a≤p→p<e→∃x∈l,Pn p x
 |_,[],h,p,h1,h2=>by simp only[Chain] at h;omega
 |a,b::r,⟨h1,_,_,_,_,h6⟩,p,p1,p2=>by
  by_cases h:p<a+sz b.2
  ·exact⟨b,sI,⟨om,om⟩⟩
  ·obtain⟨x,hx,q⟩:=Chain.cov h6 p om p2
   exact⟨x,by simp[hx],q⟩
theorem Chain.asc {e:Int}: ∀{a:Int} {l:List (Int×Int)},Chain e a l→0≤a→l.Pairwise fun x y=>x.1+sz x.2≤y.1
 |_,[],_,_=>List.Pairwise.nil
 |a,b::r,⟨h1,_,_,_,_,h6⟩,h0=>by
  have:=qh b.2;exact bN.2 ⟨fun y hy=>by have:=(Chain.low h6 om y hy).1;omega,Chain.asc h6 om⟩
theorem TI.mk' {n:Int} {L:List (Int×Int)} (hb: ∀x∈L,BlkI x) (hc: ∀p,0≤p→p<n→∃x∈L,Pn p x) (h1: ∀x∈L,∀y∈L,∀p,Pn p x→Pn p y→x=y) (hn: ∀x∈L,x.1+sz x.2≤n):TI n L:=by
 have nn: ∀x∈L,0≤x.1∧0≤x.2:=fun x hx=>⟨(hb x hx).1,(hb x hx).2.1⟩
 have back: ∀y∈L.map nt,∃x∈L,nt x=y:=fun y hy=>by simpa using hy
 refine⟨nn,⟨fun y hy=> ?_,fun p hp=> ?_,fun y hy z hz p py pz=> ?_,fun y hy=> ?_⟩⟩
 ·obtain⟨x,hx,rfl⟩:=back y hy
  exact blk_nt (hb x hx)
 ·obtain⟨x,hx,q⟩:=hc p om om
  refine⟨nt x,bC.2 ⟨x,hx,rfl⟩,?_⟩;have:=(DX (p:=p) (nn x hx) om).2 q;simpa using this
 ·obtain⟨x,hx,rfl⟩:=back y hy
  obtain⟨x',hx',rfl⟩:=back z hz;have q1:=(DX (p:=(p:Int)) (nn x hx) om).1 (by simpa using py);have q2:=(DX (p:=(p:Int)) (nn x' hx') om).1 (by simpa using pz);rw[h1 x hx x' hx' _ q1 q2]
 ·obtain⟨x,hx,rfl⟩:=back y hy
  have:=hn x hx;have h0:=nn x hx;rw[DW h0.2] at this;show x.1.toNat+2 ^ x.2.toNat≤n.toNat;omega
theorem Gw {L:List (Int×Int)} (h:L.Pairwise fun x y=>x.1+sz x.2≤y.1): ∀x∈L,∀y∈L,∀p,Pn p x→Pn p y→x=y:=by
 induction h with
 |nil=>intro x hx;cases hx
 | @cons b r hb _ ih=>
   intro x hx y hy p px py;unfold Pn at px py;rcases aB.1 hx with rfl|hx<;>rcases aB.1 hy with rfl|hy
   ·rfl
   ·have:=hb _ hy;omega
   ·have:=hb _ ‹_∈r›;omega
   ·exact ih x ‹_› y ‹_› p px py
theorem Chain.tiles {n:Int} {l:List (Int×Int)} (h:Chain n 0 l):TI n l:=
 TI.mk' (fun x hx=>(h.low (bZ _) x hx).2.2) (fun p p0 pn=>h.cov p p0 pn) (Gw (h.asc (bZ _))) (fun x hx=>(h.low (bZ _) x hx).2.1)
theorem Pv: ∀(f:Nat) (a n:Int),n.toNat≤f→∀x∈wm a n,x.2=xJ x.1 (a+n-x.1)∧x.1<a+n
 |0,a,n,h,x,hx=>by rw[rQ om] at hx;cases hx
 |f+1,a,n,h,x,hx=>by
  by_cases h0:n≤0
  ·rw[rQ h0] at hx;cases hx
  ·rw[wE om] at hx
   have:=qh (xJ a n);rcases aB.1 hx with rfl|hx
   ·refine⟨?_,(show a<a+n by omega)⟩
    show xJ a n=xJ a (a+n-a);rw[show a+n-a=n by omega]
   ·obtain⟨c1,c2⟩:=Pv f _ _ om x hx
    rw[show a+sz (xJ a n)+(n-sz (xJ a n))=a+n by omega] at c1 c2;exact⟨c1,c2⟩
theorem cov_ap {n:Int} (n0:0≤n) (n2:n≤256):ApI (wm 0 n):=by
 have hch:=uT n.toNat 0 n (aI _) n0;rw[show(0:Int)+n=n by omega] at hch;have key: ∀a k:Int,(a,k)∈wm 0 n→k<6→a % sz (k+1)=0→(a+sz k,k)∉wm 0 n:=by
  intro a k h1 h6 hm h2;obtain⟨_,k0,_,_⟩:=(hch.low (bZ _) _ h1).2.2;have e:=(Pv n.toNat 0 n (aI _) _ h1).1;have hb:=(hch.low (bZ _) _ h2).2.1;simp only at e hb k0;have e2:=xU k0 om;exact Fp (a:=a) (n:=0+n-a) (k:=k+1) om om ⟨hm,om⟩
 intro x hx h6 hb;obtain⟨a,k⟩:=x;obtain⟨b1,b2,b0,k0,k6,hm⟩:=hch.low (bZ _) _ hx;have sk:=qh k;simp only at b1 b2 b0 k0 k6 hm h6 hb;obtain⟨_,hinv,hpar,⟨_,_,p2⟩,hcase,_⟩:=kin b0 om k0 om hm;rcases hcase with⟨c1,c2⟩|⟨c1,c2⟩
 ·rw[c1] at c2 p2
  exact key a k hx h6 p2 (c2▸hb)
 ·rw[c1] at c2 p2
  exact key _ k hb h6 p2 (by rw[←c2];exact hx)
theorem Gx {L:List (Int×Int)} (h:L.Pairwise fun x y=>x.1+sz x.2≤y.1):Asc L:=h.imp fun {x y} q=>by have:=qh x.2;omega
theorem cov_asc {n:Int} (n0:0≤n):Asc (wm 0 n):=Gx ((uT n.toNat 0 n (aI _) n0).asc (bZ _))
theorem Inv.start {n:Int} (n1:1≤n) (n2:n≤256):Inv n (wm 0 n) []:=by
 have hch:=uT n.toNat 0 n (aI _) om;rw[show(0:Int)+n=n by omega] at hch;exact⟨n1,n2,cov_asc om,List.Pairwise.nil,by rw[dw];exact hch.tiles,(fun _ _ h=>by cases h),cov_ap om n2⟩
theorem Gy: ∀{l:List (Int×Int)} {a:Int} (k:Int),(∀p∈l,p.1<a)→rC a k l=l++[(a,k)]
 |[],_,_,_=>rfl
 |p::r,a,k,h=>by
  have:=h p sI;unfold rC;rw[if_neg om,if_neg om,Gy k fun q hq=>h q (by simp[hq])];rfl
theorem xX: ∀l m:List (Int×Int),oJ (l++m)=oJ l+oJ m
 |[],m=>by simp[oJ]
 |x::r,m=>by simp only[List.cons_append,oJ,xX r m];omega
theorem p9: ∀l:List (Int×Int),0≤oJ l
 |[]=>bZ _
 |x::r=>by have:=p9 r;have:=qh x.2;simp only[oJ];omega
theorem Pw: ∀{l:List (Int×Int)} {a:Int} (k:Int),(∀p∈l,p.1≠a)→oJ (rC a k l)=sz k+oJ l
 |[],a,k,_=>by simp[rC,oJ]
 |p::r,a,k,h=>by
  have h1:=h p sI;unfold rC;by_cases c:a<p.1
  ·rw[if_pos c];simp only[oJ]
  ·rw[if_neg c,if_neg (fun e=>h1 e.symm)]
   have:=Pw (l:=r) k fun q hq=>h q (ak _ hq)
   simp only[oJ];omega
theorem Px: ∀{l:List (Int×Int)} {x:Int×Int},Asc l→x∈l→oJ (tZ x.1 l)=oJ l-sz x.2
 |[],x,_,h=>by cases h
 |p::r,x,hA,h=>by
  obtain⟨h1,h2⟩:=bN.1 hA;rcases aB.1 h with rfl|h
  ·have e:tZ x.1 (x::r)=r:=by
    have:tZ x.1 (x::r)=tZ x.1 r:=by simp[tZ]
    rw[this,tZ,dN.2 fun q hq=>by have:=h1 q hq;simp;omega]
   rw[e];simp only[oJ];omega
  ·have:=h1 x h
   have e:tZ x.1 (p::r)=p::tZ x.1 r:=by
    have: ¬p.1=x.1:=om;simp[tZ,this]
   rw[e];simp only[oJ,Px h2 h];omega
theorem Gz {e:Int}: ∀{a:Int} {l:List (Int×Int)},Chain e a l→oJ l=e-a
 |_,[],h=>by simp only[Chain] at h;simp[oJ];omega
 |a,b::r,⟨_,_,_,_,_,h6⟩=>by simp only[oJ,Gz h6];omega
theorem sum_le {e:Int}: ∀{a:Int} {l:List (Int×Int)},a≤e→(l.Pairwise fun x y=>x.1+sz x.2≤y.1)→(∀x∈l,a≤x.1∧x.1+sz x.2≤e)→oJ l≤e-a
 |a,[],h,_,_=>by simp[oJ];omega
 |a,b::r,h,hP,hr=>by
  obtain⟨h1,h2⟩:=bN.1 hP;have hb:=hr b sI;have:=sum_le (a:=b.1+sz b.2) (e:=e) om h2 fun x hx=>⟨h1 x hx,(hr x (by simp[hx])).2⟩
  simp only[oJ];omega
theorem Uy {n:Int} {L l:List (Int×Int)} (t:TI n L) (hs: ∀x∈l,x∈L) (hA:Asc l):l.Pairwise fun x y=>x.1+sz x.2≤y.1:=by
 refine hA.imp_of_mem fun {x y} hx hy q=> ?_
 rcases Int.lt_or_le y.1 (x.1+sz x.2) with h|h
 ·have:=t.one (hs x hx) (hs y hy) (p:=y.1) ⟨om,h⟩ (DZ y)
  rw[this] at q;omega
 ·exact h
theorem Inv.sumF {n:Int} {F T:List (Int×Int)} (h:Inv n F T):0≤oJ F∧oJ F≤n:=by
 refine⟨p9 F,?_⟩;have:=sum_le (a:=0) (e:=n) (by have:=h.n1;omega) (Uy h.t (fun x hx=>h.sU hx) h.fa) fun x hx=>⟨(h.rngF hx).1,h.t.bound (h.sU hx)⟩
 omega
theorem wF.Py {n:Int} {T:List (Int×Int)} {a k:Int} (k0:0≤k): ∀(d:Nat) {F:List (Int×Int)},wF n F T (a,k+d)→oJ (uU d a k F)=oJ F+sz (k+d)-sz k
 |0,F,_=>by simp[uU]
 |d+1,F,h=>by
  have e:k+((d+1:Nat):Int)=k+d+1:=om;rw[e] at h;have hc:=wF.cut om h;have b2:=h.blk.2.2.1;simp only at b2;unfold uU;rw[wF.Py k0 d hc,e,xU om om,Pw _ fun p hp q=> ?_]
  ·omega
  ·have:=h.t.one (ak _ (av _ hp)) (aG ..) (p:=p.1) (DZ p)
    ⟨by have:=qh (k+d);omega,by show p.1<a+sz (k+d+1);have:=qh (k+d);have:=xU (k:=k+d) om om;omega⟩
   exact h.nf (this▸hp)
theorem Inv.Fv {n:Int} {F T:List (Int×Int)} (h:Inv n F T) {k:Int} (k0:0≤k) {x:Int×Int} (hx:nD k F=some x):oJ (uz k x F)=oJ F-sz k:=by
 obtain⟨h1,h2⟩:=oG hx;have hh:=h.hand h1;have hd:=Px h.fa h1;obtain⟨a,m⟩:=x;simp only at h2 hd;have e:k+(((m-k).toNat:Nat):Int)=m:=om;have:=wF.Py (a:=a) k0 (m-k).toNat (F:=tZ a F) (T:=T) (n:=n) (by rw[e];exact hh);rw[e] at this;show oJ (uU (m-k).toNat a k (tZ a F))=_;omega
theorem Fw: ∀{l:List (Int×Int)} {a k:Int} {j:Nat},(∀x∈l.take j,x.1<a)→(∀x∈l.drop j,a<x.1)→rC a k l=l.take j++(a,k)::l.drop j
 |[],a,k,j,_,_=>by simp[rC]
 |p::r,a,k,0,_,h2=>by
  have:=h2 p sI;unfold rC;rw[if_pos this];rfl
 |p::r,a,k,j+1,h1,h2=>by
  have:=h1 p sI;unfold rC;rw[if_neg om,if_neg om,Fw (j:=j) (fun x hx=>h1 x (by simp[hx])) (fun x hx=>h2 x (by simpa using hx))];rfl
theorem Pz: ∀{l:List (Int×Int)} {z:Int×Int} {j:Nat},Asc l→l[j]?=some z→tZ z.1 l=l.take j++l.drop (j+1)
 |[],z,j,_,h=>by simp at h
 |p::r,z,0,hA,h=>by
  obtain⟨h1,h2⟩:=bN.1 hA;simp at h;subst h;have:tZ p.1 (p::r)=tZ p.1 r:=by simp[tZ]
  rw[this,tZ,dN.2 fun q hq=>by have:=h1 q hq;simp;omega];rfl
 |p::r,z,j+1,hA,h=>by
  obtain⟨h1,h2⟩:=bN.1 hA;have hz:r[j]?=some z:=by simpa using h
  have:=h1 z (aF hz);have e:tZ z.1 (p::r)=p::tZ z.1 r:=by
   have: ¬p.1=z.1:=om;simp[tZ,this]
  rw[e,Pz h2 hz];rfl
theorem cut_at {l:List (Int×Int)} {a:Int} {j:Nat} (hA:Asc l) (hne: ∀x∈l,x.1≠a) (_: ∀x∈l.take j,x.1<a) (hj: ∀x,l[j]?=some x→a≤x.1): ∀x∈l.drop j,a<x.1:=by
 intro x hx;cases e:l[j]? with
 |none=>
  rw[gI (by simpa using e)] at hx;cases hx
 |some y=>
  have h0:=hj y e;have hy:=hne y (aF e);rw[dY (au.1 e).1,(au.1 e).2] at hx;rcases aB.1 hx with rfl|hx
  ·omega
  ·have hA':Asc (l.drop j):=List.Pairwise.sublist (List.drop_sublist j l) hA
   rw[dY (au.1 e).1,(au.1 e).2] at hA';have:=(bN.1 hA').1 x hx;omega
theorem take_lt {l:List (Int×Int)} {a:Int} {j:Nat} {y:Int×Int} (h: ∀x∈l.take j,x.1<a) (hy:l[j]?=some y) (hlt:y.1<a): ∀x∈l.take (j+1),x.1<a:=by
 intro x hx;rw[bR,hy] at hx;rcases aD.1 hx with q|q
 ·exact h x q
 ·simp at q;rw[q];exact hlt
def vX (k:Int) (l:List (Int×Int)):Option (Nat×(Int×Int))→Prop:=fun
 |none=>∀x∈l,x.2<k
 |some (i,x)=>l[i]?=some x∧nD k l=some x
theorem GA: ∀(r:List (Int×Int)) (x y:Int×Int),Ae x (r++[y])=if y.2<(Ae x r).2 then y else Ae x r
 |[],x,y=>rfl
 |z::r,x,y=>by simp only[List.cons_append,Ae];exact GA r _ y
theorem Uz (k:Int) (l:List (Int×Int)) (y:Int×Int):Df k (l++[y])=if y.2<k then Df k l else Df k l++[y]:=by
 unfold Df;rw[gL];by_cases h:y.2<k<;>simp[h]
theorem E8 (k:Int) (l:List (Int×Int)) (y:Int×Int):nD k (l++[y])=if y.2<k then nD k l else match nD k l with|none=>some y|some x=>if y.2<x.2 then some y else some x:=by
 unfold nD;rw[Uz];by_cases h:y.2<k
 ·rw[if_pos h,if_pos h]
 ·rw[if_neg h,if_neg h]
  cases e:Df k l with
  |nil=>simp[Ae]
  |cons x r=>
   simp only[List.cons_append,GA];split<;>rfl
theorem Sb (k:Int):vX k [] none:=fun _ h=>by cases h
theorem Bc {k:Int} {l:List (Int×Int)} {b:Option (Nat×(Int×Int))} {y:Int×Int} (h:vX k l b) (hy:y.2<k∨∃i x,b=some (i,x)∧x.2≤y.2):vX k (l++[y]) b:=by
 match b,h with
 |none,h=>
  rcases hy with hy|⟨i,x,e,_⟩
  ·intro x hx
   rcases aD.1 hx with q|q
   ·exact h x q
   ·simp at q;rw[q];exact hy
  ·cases e
 |some (i,x),⟨h1,h2⟩=>
  refine⟨?_,?_⟩
  ·rw[bJ (au.1 h1).1];exact h1
  ·rw[E8,h2]
   rcases hy with hy|⟨i',x',e,hy⟩
   ·rw[if_pos hy]
   ·obtain⟨rfl,rfl⟩:i=i'∧x=x':=by simpa using e
    split
    ·rfl
    ·simp only
     rw[if_neg om]
theorem Bd {k:Int} {l:List (Int×Int)} {b:Option (Nat×(Int×Int))} {y:Int×Int} (h:vX k l b) (hk:k≤y.2) (hy: ∀i x,b=some (i,x)→y.2<x.2):vX k (l++[y]) (some (l.length,y)):=by
 refine⟨sI,?_⟩;rw[E8,if_neg om];match b,h with
 |none,h=>
  have:nD k l=none:=by
   unfold nD;have:Df k l=[]:=by
    refine List.filter_eq_nil_iff.2 fun x hx=> ?_
    have:=h x hx;simp;omega
   rw[this]
  rw[this]
 |some (i,x),⟨_,h2⟩=>
  rw[h2];simp only;rw[if_pos (hy i x rfl)]
theorem Jj {k:Int} {l:List (Int×Int)} (h:vX k l none):nD k l=none:=by
 unfold nD;have:Df k l=[]:=by
  refine List.filter_eq_nil_iff.2 fun x hx=> ?_
  have:=h x hx;simp;omega
 rw[this]
structure TS (n:Int) (F T:List (Int×Int)) (i k:Nat) (at':Int):Prop where
 i1:i≤F.length
 k1:k≤T.length
 a0:0≤at'
 a1:at'≤n
 fb: ∀x∈F.take i,x.1+sz x.2≤at'
 fa: ∀x∈F.drop i,at'≤x.1
 tb: ∀x∈T.take k,x.1+sz x.2≤at'
 ta: ∀x∈T.drop k,at'≤x.1
