/- Lemmas. -/
import Derived.Test.YtehhldljdakgeaaGreatDoorQb01
import Derived.Test.YtehhldljdakgeaaGreatDoorQb32
import Derived.Test.YtehhldljdakgeaaGreatDoorQb48
set_option linter.unusedSimpArgs false
set_option linter.unusedVariables false
set_option maxHeartbeats 16000000
set_option maxRecDepth 100000
namespace Go.Proofs.YtehhldljdakgeaaGreatDoor
open Go.RowKit Go.Maps Go.Proofs.Tryz
attribute [local go_sem ↓] aJ aK
section
open Go.RowKit Go.ChangeShapes
structure zu where
 kind:ByteArray
 wk:Int
 node:Int
 id:Int
 a:Int
 n:Int
 text:ByteArray
def zu.cells (x:zu):List Value:=[.string x.kind,.int .i64 x.wk,.int .i64 x.node,.int .i64 x.id,.int .i64 x.a,.int .i64 x.n,.string x.text]
def zu.fits (x:zu):Prop:=x.kind.size≤maxLen∧kW x.wk∧kW x.node∧kW x.id∧kW x.a∧kW x.n∧x.text.size≤maxLen
theorem Ul:prog.cellsOf 85=7:=kR
def Gs (w:World) (v:Value) (xs:List zu):Prop:=RowG 7 zu.cells zu.fits w v xs
theorem Pj {H:Type} {enc:TypeId×Value→H} {W:World} {base:Nat} {spare:Nat→Bool} {held:Bool} {fuel:Nat} {v:Value} {x:DataW H×List MemPlace}
 (h:DataW.trod enc prog W base spare held fuel 81 [v]=some x): ∃xs,Gs W v xs:=by
 refine Xa Tryz.underlying81 Ul om (fun n cs y h1 h2=> ?_) h;obtain⟨v0,v1,v2,v3,v4,v5,v6,rfl⟩:=len7 h1;obtain⟨ys,k,_,_,_,hl,hf⟩:=DataW.trod_struct Tryz.underlying85 h2;obtain⟨y0,y1,y2,y3,y4,y5,y6,rfl⟩:=len7 (hl.trans rfl);have g0:=hf 0 _ rfl;simp at g0;rw[show prog.cellsOf 9=1 by kernel_rfl] at g0;simp at g0;have g1:=hf 1 _ rfl;simp at g1;rw[show prog.cellsOf 3=1 by kernel_rfl] at g1;simp at g1;have g2:=hf 2 _ rfl;simp at g2;rw[show prog.cellsOf 3=1 by kernel_rfl] at g2;simp at g2;have g3:=hf 3 _ rfl;simp at g3;rw[show prog.cellsOf 3=1 by kernel_rfl] at g3;simp at g3;have g4:=hf 4 _ rfl;simp at g4;rw[show prog.cellsOf 3=1 by kernel_rfl] at g4;simp at g4;have g5:=hf 5 _ rfl;simp at g5;rw[show prog.cellsOf 3=1 by kernel_rfl] at g5;simp at g5;have g6:=hf 6 _ rfl;simp at g6;rw[show prog.cellsOf 9=1 by kernel_rfl] at g6;simp at g6;obtain⟨u0,e0,_,w0⟩:=DataW.trod_string iM g0;simp at e0;subst e0;obtain⟨u1,e1,_,w1⟩:=fE bB g1;simp at e1;subst e1;obtain⟨u2,e2,_,w2⟩:=fE bB g2;simp at e2;subst e2;obtain⟨u3,e3,_,w3⟩:=fE bB g3;simp at e3;subst e3;obtain⟨u4,e4,_,w4⟩:=fE bB g4;simp at e4;subst e4;obtain⟨u5,e5,_,w5⟩:=fE bB g5;simp at e5;subst e5;obtain⟨u6,e6,_,w6⟩:=DataW.trod_string iM g6;simp at e6;subst e6;exact⟨⟨u0,u1,u2,u3,u4,u5,u6⟩,rfl,w0,oW w1,oW w2,oW w3,oW w4,oW w5,w6⟩
end
theorem snew_nil {B:Nat} {ev:Nat→Addr} (n:Int) (w:World) (hE:qC B ev w):
 Calls prog 39 #[.pointer none,.int .i64 n] w fun r w'=>r= .returned (.tuple #[.pointer none,.iface 336 (.pointer (some (ev 3)))])∧Below w.heap.size w w':=by
 have gs:w.cell? ⟨0,0,none⟩=some (.iface 336 (.pointer (some (ev 3)))):=(hE.at 3 (by decide) (by decide)).1;have gl:0<w.heap.size:=(hE.at 3 (by decide) (by decide)).2;clear hE;go_in
 go_wp2_with fail;go_quiet (fail);go_wp2;go_ret2
 exact⟨rfl,jY⟩
section
variable {pd pc pz pdm e B:Nat} {ev:Nat→Addr} {w w3:World} {E:sG pd pc pz e 0 [[0]] ev w3} {D:vC pdm e 0 [[0]] w3} {pp pq ps pm:Nat} {L:List Nat} {s:St} {W:World}
theorem sd_size {s':St} (h:SD E D pp pq ps pm w L s s' W):Calls prog 40 #[.pointer (some ⟨ps,0,none⟩)] W fun r w'=>r= .returned (.int .i64 e)∧w'=W:=by
 obtain⟨X,F,Y,G,q⟩:=h;obtain⟨⟨⟨bl,C⟩,t⟩,hi⟩:=q.s;have c1:=t.b.c.gC 1;have cl:=t.b.c.lt;clear t hi q;go_in
 go_wp2;go_ret;exact⟨rfl,rfl⟩
theorem xax {s':St} (h:SD E D pp pq ps pm w L s' s W): ∃vq vk,W.cell? ⟨pm,2,none⟩=some (.slice vq s.L.length vk)∧pm<W.heap.size∧s.L.length≤65536∧∀(i:Nat) (x:Bk),s.L[i]?=some x→∃g pb,vq=some ⟨g,0,none⟩∧s.L.length≤vk∧vk≤maxLen∧g<W.heap.size∧W.cell? ⟨g,i,none⟩=some (.pointer (some ⟨pb,0,none⟩))∧jR W pb (Fa x):=by
 obtain⟨X,F,Y,G,q⟩:=h;obtain⟨⟨⟨vl,C⟩,t⟩,hi⟩:=q.t;have c2:=t.b.c.gC 2;have cl:=t.b.c.lt;obtain⟨vq,vk,hvl⟩: ∃vq vk,vl= .slice vq s.L.length vk:=l6 t.b.r;refine⟨vq,vk,by rw[←hvl];exact c2,cl,hi.few,fun i x hx=> ?_⟩;have hl:C.map (·.1)=s.L:=t.b.l;rw[←hl,gq] at hx;obtain⟨c,hc,rfl⟩:=dh.1 hx;obtain⟨g,k,e1,h1,h2,h3,h4⟩:=tY.at t.b hc;rw[show vl=_ from hvl] at e1;injection e1 with e1 e2 e3;subst e1 e3;exact⟨g,c.2,rfl,h1,h2,h3,h4,t.b.b c (aF hc)⟩
theorem Ja {s':St} {W':World} (h:SD E D pp pq ps pm w L s s' W) (k:Below W.heap.size W W'):SD E D pp pq ps pm w L s s' W':=lT.go h k
theorem sd_read {s':St} (h:SD E D pp pq ps pm w L s s' W) {id a n:Int} (hid:kW id) (ha:kW a) (hn:kW n):
 Calls prog 33 #[.pointer (some ⟨ps,0,none⟩),.int .i64 id,.int .i64 a,.int .i64 n] W fun r w'=>r= .returned (.tuple #[.string ⟨(vG e s id a n).toArray⟩,kM ev (lC e s id a n)])∧Below W.heap.size W w':=by
 have h64:=h.e64;obtain⟨X,F,Y,G,q⟩:=h;exact zq om hid ha hn q.s
theorem Fj {s':St} (h:SD E D pp pq ps pm w L s s' W) {id:Int} (hid:kW id):
 Calls prog 38 #[.pointer (some ⟨ps,0,none⟩),.int .i64 id] W fun r w'=>r= .returned (match mW s.L id with|some x=>.tuple #[.int .i64 x.h,.nilIface]|none=>.tuple #[.int .i64 0,kM ev 4])∧Below W.heap.size W w':=by
 obtain⟨X,F,Y,G,q⟩:=h;exact J5 hid q.s
end
theorem DT {B:Nat} {ev:Nat→Addr} (pages size:Int) (vl:Value) (xs:List zu) (w:World) (hE:qC B ev w) (hx:Gs w vl xs):
 Calls prog 6 #[.int .i64 pages,.int .i64 size,vl] w fun e w'=>e= .returned (.bool true)∧Below w.heap.size w w':=by
 have hB:=hE.size;obtain⟨pl,kl,rfl,⟨hkl,hml⟩,hxx⟩:=id hx;have HX:=ah hx;have EE:Hid (∀W,Below w.heap.size w W→qC B ev W):=fun W hW=>hE.go hW
 have SV:=ah (Cz w hE);obtain⟨n,hn⟩:=eY xs.length;have HN:=ah hn;rw[←hn] at hkl HX ⊢;unfold maxLen at hml;clear hE hx hn hxx;go_in
 go_wp2_with fail;refine SV.out.mono ?_;rintro r w1 ⟨rfl,hb1⟩;clear SV;by_cases Uc:100<n
 ·go_wp2
  go_ret;exact⟨rfl,hb1⟩
 have NL:=ah (snew_nil size w1 (EE.out w1 hb1));have HB1:=ah hb1;clear hb1;go_wp2_with fail;refine NL.out.mono ?_;rintro r w2 ⟨rfl,hb2⟩;have HB2:Hid (Below w.heap.size w w2):=HB1.out.trans (hb2.mono HB1.out.size);have CD0:=sM 3 3 w2 (EE.out _ HB2.out) om rfl;have CD:=ah (show Calls prog 11 #[.iface 336 (.pointer (some (ev 3))),.int .i64 3] w2 fun e w'=>e= .returned (.bool true)∧Below w2.heap.size w2 w' from CD0);clear CD0 NL hb2;go_wp2_with fail;refine CD.out.mono ?_;rintro r w4 ⟨rfl,hb4⟩;have HB4:Hid (Below w.heap.size w w4):=HB2.out.trans (hb4.mono HB2.out.size);clear CD hb4;by_cases hok:uF [pages] [[0]] 0 0 0=0∧1≤size∧size≤64;case neg=>
  have hno:uF [pages] [[0]] 0 0 0≠0∨size<1∨64<size:=by
   by_cases h1:uF [pages] [[0]] 0 0 0=0
   ·by_cases h2:size<1
    ·exact .inr (.inl h2)
    ·exact .inr (.inr (by have:=fun q=>hok ⟨h1,om,q⟩;omega))
   ·exact .inl h1
  have DN:=ah (xat pages size w4 (EE.out w4 HB4.out) hno);clear hok hno;go_wp2_with fail;refine DN.out.mono ?_;rintro r w5 ⟨rfl,hb5⟩;go_wp2;go_ret;exact⟨rfl,HB4.out.trans (hb5.mono HB4.out.size)⟩
 obtain⟨hok1,hok2,hok3⟩:=hok;have hpg:=(Vv hok1).2.2.1 pages sI;obtain⟨e,rfl⟩: ∃e:Nat,size=e:=⟨size.toNat,om⟩;obtain⟨p,rfl⟩: ∃p:Nat,pages=p:=⟨pages.toNat,om⟩;have SH:=ah (show Calls prog 29 #[.int .i64 p,.int .i64 e] w4 _ from Ug p e w4 (EE.out _ HB4.out) om om);clear hok1 hpg;go_wp2_with fail;refine SH.out.mono ?_;rintro r w5 ⟨w3,pd,pc,pz,E,pdm,D,pp,pq,ps,pm,q,rfl,hD,hl⟩;have HB5:Hid (Below w.heap.size w w5):=HB4.out.trans (hD.bel.mono HB4.out.size);have HE4:Hid (∀W,Below w4.heap.size w4 W→qC B ev W):=fun W hW=>EE.out W (HB4.out.trans (hW.mono HB4.out.size))
 have HD0:=ah (show SD E D pp pq ps pm w4 [] ⟨q,[],0⟩ ⟨q,[],0⟩ w5 from hD);have HL0:Hid ((⟨q,[],0⟩:St).last≤((0:Nat):Int)∧(⟨q,[],0⟩:St).p.last≤((0:Nat):Int)):=⟨bZ _,by simp only;omega⟩;have SZ:=ah (sd_size HD0.out);clear SH hD hl HB1 HB2;go_wp2_with fail;refine SZ.out.mono ?_;rintro r w6 ⟨rfl,hw6⟩;obtain rfl:=hw6.symm;clear SZ;go_wp2_with fail;go_loopw [13] (fun iv wr=>∃(i:Nat) (s:St),i≤n∧iv= .int .i64 i∧Hid (SD E D pp pq ps pm w4 [] s s wr)∧Hid (s.last≤(i:Int)∧s.p.last≤(i:Int))) (fun iv _=>n-(intOf iv).toNat);case atStart=>exact⟨0,_,bq _,by go_num,HD0,HL0⟩
 case round=>
  obtain⟨i,s,hin,rfl,HS,HL⟩:=hrel;clear HD0 HL0;have KR:Below w.heap.size w wr:=HB4.out.trans (HS.out.bel.mono HB4.out.size);by_cases hlt:i<n
  ·obtain⟨x,hx⟩: ∃x,xs[i]?=some x:=⟨xs[i]'(by rw[←HN.out];exact hlt),aA _⟩
   obtain⟨g,off,cap',e',_,hg,hrow⟩:=(show Gs w (.slice pl n kl) xs from HX.out).form (by rw[←HN.out];omega);rw[←HN.out] at e';injection e' with e1 e2 e3;subst e1 e3;obtain⟨hfx,hcell⟩:=hrow i x hx;have hgr:g<wr.heap.size:=by have:=KR.size;omega
   have r0:=(KR.cell (p:=⟨g,off+i*7+0,none⟩) hg).trans (hcell 0 _ rfl);have r1:=(KR.cell (p:=⟨g,off+i*7+1,none⟩) hg).trans (hcell 1 _ rfl);have r2:=(KR.cell (p:=⟨g,off+i*7+2,none⟩) hg).trans (hcell 2 _ rfl);have r3:=(KR.cell (p:=⟨g,off+i*7+3,none⟩) hg).trans (hcell 3 _ rfl);have r4:=(KR.cell (p:=⟨g,off+i*7+4,none⟩) hg).trans (hcell 4 _ rfl);have r5:=(KR.cell (p:=⟨g,off+i*7+5,none⟩) hg).trans (hcell 5 _ rfl);have r6:=(KR.cell (p:=⟨g,off+i*7+6,none⟩) hg).trans (hcell 6 _ rfl);clear hx hrow hcell;obtain⟨kd,wk,nd,id,a,nn,text⟩:=x;simp only[zu.fits] at r0 r1 r2 r3 r4 r5 r6 hfx;simp only[gP] at r0;obtain⟨_,f1,f2,f3,f4,f5,ft⟩:=hfx;have i0:(0:Int)≤(i:Int):=om;have i1:(i:Int)<(n:Int):=om;obtain⟨wa,hwa⟩:=eX (wr.alloc (.cells #[.string kd,.int .i64 wk,.int .i64 nd,.int .i64 id,.int .i64 a,.int .i64 nn,.string text] 85));have ba:Below wr.heap.size wr wa:=by rw[←hwa];exact jY
   have LA0:=(show jR (wr.alloc (.cells #[.string kd,.int .i64 wk,.int .i64 nd,.int .i64 id,.int .i64 a,.int .i64 nn,.string text] 85)) wr.heap.size [.string kd,.int .i64 wk,.int .i64 nd,.int .i64 id,.int .i64 a,.int .i64 nn,.string text] from jR.mk_ wr [.string kd,.int .i64 wk,.int .i64 nd,.int .i64 id,.int .i64 a,.int .i64 nn,.string text] 85 rfl);rw[hwa] at LA0;have a0:=LA0.gC 0;have a1:=LA0.gC 1;have a2:=LA0.gC 2;have a3:=LA0.gC 3;have a4:=LA0.gC 4;have a5:=LA0.gC 5;have a6:=LA0.gC 6;have al:=LA0.lt;have DA:=ah (Ja HS.out ba);have HBA:=ah (KR.trans (ba.mono KR.size));have hl:=HL.out;clear LA0 KR ba f1 f2;by_cases h200:200<text.size
   ·have d200:decide ((200:Int)<(text.size:Int))=true:=dQt om
    clear f3 f4 f5 ft;go_wp2;go_ret;exact⟨rfl,HBA.out⟩
   have d200:decide ((200:Int)<(text.size:Int))=false:=dQf om;have SA:=ah (J9 kd text wk nd id a nn DA.out HE4.out f3 f4 f5 om om om);clear f3 f4 f5 ft h200 HS;go_wp2_with fail;refine SA.out.mono ?_;rintro r wb ⟨rfl,s2,DB,l1,l2⟩;obtain⟨vq,vk,d2,dl,zY,_⟩:=xax DB;have HDB:=ah DB;obtain⟨N2,hN2⟩:=eY s2.L.length;obtain⟨II,hII⟩:=eY (ints (s2.L.map (·.id)));have hCN: ∀W,Below wb.heap.size wb W→Calls prog 37 #[.pointer (some ⟨ps,0,none⟩)] W fun r w'=>r= .returned (.int .i64 N2)∧w'=W:=fun W hW=>by
    obtain⟨X,F,Y,G,q⟩:=Ja DB hW;rw[hN2];exact xaq q.s
   have hID: ∀W,Below wb.heap.size wb W→Calls prog 35 #[.pointer (some ⟨ps,0,none⟩)] W fun r w'=>∃v,r= .returned v∧w'.ownsRow W.heap.size 3 1 v N2 II∧Below W.heap.size W w':=fun W hW=>by
    obtain⟨X,F,Y,G,q⟩:=Ja DB hW;rw[hN2,hII];exact Xq zY q.s
   have hRI: ∀W,Below wb.heap.size wb W→Calls prog 42 #[.pointer (some ⟨pm,0,none⟩)] W fun r w'=>∃v,r= .returned v∧w'.ownsRow W.heap.size 3 1 v N2 II∧Below W.heap.size W w':=fun W hW=>by
    obtain⟨X,F,Y,G,q⟩:=Ja DB hW;rw[hN2,hII];exact rsids_ok q.t
   have hOV: ∀(W W':World) (v:Value),W'.ownsRow W.heap.size 3 1 v N2 II→nO [] W' v II:=fun W W' v h=>by
    rw[hII,hN2] at h;rw[hII];exact rH (xs:=s2.L.map (·.id)) (by rw[dD];exact h)
   have hSI: ∀(W:World) (v v':Value),nO [] W v II→nO [] W v' II→Calls prog 26 #[v,v'] W fun e w'=>e= .returned (.bool true)∧Below W.heap.size W w':=fun W v v' h h'=>by
    rw[hII] at h h';exact wP v v' _ W h h'
   rw[←hN2] at d2;have CNC:=ah hCN;have IDC:=ah hID;have RIC:=ah hRI;have OVC:=ah hOV;have SIC:=ah hSI;have HL2:Hid (s2.last≤((i+1:Nat):Int)∧s2.p.last≤((i+1:Nat):Int)):=⟨om,om⟩;clear hCN hID hRI hOV hSI hN2 hII zY DB l1 l2 hl SA DA hwa r0 r1 r2 r3 r4 r5 r6 a0 a1 a2 a3 a4 a5 a6 al hgr HL;go_wp2_with fail;go_region_held3 (fun w'=>w'.cell? ⟨pm,2,none⟩=some (.slice vq N2 vk)) (go_keep) (first
    |(go_at_call 37;refine(CNC.out _ jY).mono ?_;rintro r wj ⟨rfl,rfl⟩)
    |(go_at_call 35;refine(IDC.out _ jY).mono ?_;rintro r wk9 ⟨v7,rfl,ho7,hb7⟩;have rv7:=OVC.out _ _ _ ho7;have BB7:Below wb.heap.size wb wk9:=fG jY (hb7.mono sI);have f2:=(BB7.cell (p:=⟨pm,2,none⟩) dl).trans d2)
    |(go_at_call 42;refine(RIC.out _ BB7).mono ?_;rintro r wl9 ⟨v8,rfl,ho8,hb8⟩;have rv8:=OVC.out _ _ _ ho8;have rv7':=rv7.below hb8;have BB8:=BB7.trans (hb8.mono BB7.size);have g2:=(BB8.cell (p:=⟨pm,2,none⟩) dl).trans d2)
    |(go_at_call 26;refine(SIC.out _ _ _ rv7' rv8).mono ?_;rintro r wm9 ⟨rfl,hb9⟩;have BB9:=BB8.trans (hb9.mono BB8.size);have h2:=(BB9.cell (p:=⟨pm,2,none⟩) dl).trans d2))
   have D9:=ah (Ja HDB.out BB9);clear HDB BB9;go_wp2;go_roundw;case rel=>exact⟨i+1,s2,om,by go_num,D9,HL2⟩
   case measure=>simp[intOf];omega
  ·obtain rfl:i=n:=by omega
   have NDI:=ah HS.out.inv.1.ndI;have LEN:=ah HS.out.inv.1.len;have RNG:=ah HS.out.inv.1.rng;have H64:=ah HS.out.e64;obtain⟨N2,hN2⟩:=eY s.L.length;have HN2:=ah hN2;have hl:=HL.out;have HLS:Hid (s.last≤100):=by show _≤_;omega
   clear hlt KR hN2 hl;go_wp2_with fail;go_loopw [16] (fun iv wr=>∃(j:Nat),j≤N2∧iv= .int .i64 j∧Hid (SD E D pp pq ps pm w4 [] s s wr)) (fun iv _=>N2-(intOf iv).toNat);case atStart=>exact⟨0,bq _,by go_num,HS⟩
   case round=>
    obtain⟨j,hjn,rfl,HT⟩:=hrel;clear HS;have j0:(0:Int)≤(j:Int):=om;by_cases hlt:j<N2
    ·obtain⟨x,hx⟩: ∃x,s.L[j]?=some x:=⟨s.L[j]'(by rw[←HN2.out];exact hlt),aA _⟩
     obtain⟨vq,vk,d2,dl,zY,hat⟩:=xax HT.out;obtain⟨g,pb,rfl,v1,v2,v3,v4,LB⟩:=hat j x hx;rw[←HN2.out] at d2 zY v1;unfold maxLen at v2;have j1:(j:Int)<(N2:Int):=om;have hxm:=aF hx;have hf:=uN NDI.out hxm;have hrg:=RNG.out x hxm;have fid:kW x.id:=⟨om,by have:=HLS.out;omega⟩;have hb0:lC e s x.id 0 e=0:=by unfold lC;rw[hf];simp only;rw[if_neg om]
     have hrd:vG e s x.id 0 e=x.b:=by
      unfold vG;rw[hf];simp only;rw[if_pos hb0];simp only[Int.toNat_zero,aU,bS];rw[dG (by rw[LEN.out x hxm];exact aI _)]
     have RD0:=sd_read HT.out (id:=x.id) (a:=0) (n:=(e:Int)) fid ⟨om,om⟩ ⟨om,by have:=H64.out;omega⟩;rw[hb0,hrd] at RD0;have HO0:=fun W (h:SD E D pp pq ps pm w4 [] s s W)=>Fj h (id:=x.id) fid
     rw[hf] at HO0;simp only at HO0;have b0:=LB.gC 0;have b3:=LB.gC 3;have b4:=LB.gC 4;have bl:=LB.lt;obtain⟨BB,hBB⟩: ∃BB:ByteArray,BB=⟨x.b.toArray⟩:=⟨_,rfl⟩;obtain⟨xi,hxi⟩:=eY x.id;obtain⟨xh,hxh⟩:=eY x.h;rw[←hBB] at RD0 b3;rw[←hxi] at RD0 HO0 b0;rw[←hxh] at HO0 b4;have LB':Hid (∃u1 u2,jR wr pb [.int .i64 xi,u1,u2,.string BB,.int .i64 xh]):=⟨.int .i64 x.o.1,.int .i64 x.o.2,by rw[hBB,hxi,hxh];exact LB⟩;have RD:=ah (show Calls prog 33 #[.pointer (some ⟨ps,0,none⟩),.int .i64 xi,.int .i64 0,.int .i64 e] wr fun r w'=>r= .returned (.tuple #[.string BB,.nilIface])∧Below wr.heap.size wr w' from RD0);have HO:=ah HO0;clear hx hxm hf hrg fid hb0 hrd RD0 HO0 LB hBB hxi hxh hat;go_wp2_with fail;refine RD.out.mono ?_;rintro r wu ⟨rfl,hb1⟩;have D1:=ah (Ja HT.out hb1);obtain⟨u1,u2,LB⟩:=LB'.out;have LB1:=LB.go hb1;have c0:=LB1.gC 0;have c3:=LB1.gC 3;have c4:=LB1.gC 4;have cl:=LB1.lt;have HLB1:=ah LB1;clear RD LB LB1 b0 b3 b4 bl hb1 d2 dl v3 v4;go_wp2_with fail;refine(HO.out _ D1.out).mono ?_;rintro r wv ⟨rfl,hb2⟩;have D2:=ah (Ja D1.out hb2);have LB2:=HLB1.out.go hb2;have e3:=LB2.gC 3;have e4:=LB2.gC 4;have el:=LB2.lt;clear HO LB2 c0 c3 c4 cl hb2;go_wp2;go_roundw;case rel=>exact⟨j+1,om,by go_num,D2⟩
     case measure=>simp[intOf];omega
    ·obtain rfl:j=N2:=by omega
     obtain⟨vq,vk,d2,dl,zY,_⟩:=xax HT.out;rw[←HN2.out] at d2 zY;have hf:mW s.L 0=none:=by
      cases q:mW s.L 0 with
      |none=>rfl
      |some y=>
       obtain⟨m1,m2⟩:=mH q;have:=(RNG.out y m1).1;omega
     have HO0:=Fj HT.out (id:=0) ⟨om,om⟩;rw[hf] at HO0;have HO:=ah (show Calls prog 38 #[.pointer (some ⟨ps,0,none⟩),.int .i64 0] wr fun r w'=>r= .returned (.tuple #[.int .i64 0,.iface 336 (.pointer (some (ev 4)))])∧Below wr.heap.size wr w' from HO0);clear hf HO0;go_wp2_with fail;refine HO.out.mono ?_;rintro r wu ⟨rfl,hb1⟩;have D1:=Ja HT.out hb1;have HBD:Hid (Below w.heap.size w wu):=HB4.out.trans (lT.bel D1 |>.mono HB4.out.size);have CD0:=sM 4 4 wu (EE.out _ HBD.out) om rfl;have CD:=ah (show Calls prog 11 #[.iface 336 (.pointer (some (ev 4))),.int .i64 4] wu fun e w'=>e= .returned (.bool true)∧Below wu.heap.size wu w' from CD0);clear HO hb1 D1 CD0 d2 dl;go_wp2_with fail;refine CD.out.mono ?_;rintro r wv ⟨rfl,hb2⟩;go_wp2;go_ret;exact⟨rfl,HBD.out.trans (hb2.mono HBD.out.size)⟩
