/- The laws' asZone by its contract: a zone and the document's, with the same nodes. -/
import Derived.Test.YtcokmiidgdmdlaaGreatDoorRZ
import Derived.Test.YtcokmiidgdmdlaaGreatDoorRefM
import Derived.Test.YtcokmiidgdmdlaaGreatDoorBud
namespace Go.Proofs.YtcokmiidgdmdlaaGreatDoor
open Go.RowKit Go.Maps
set_option linter.unusedSimpArgs false
set_option linter.unusedVariables false

set_option maxHeartbeats 1000000 in
theorem znode_ok {B : Nat} (pz : Nat) (mn lw hi : Int) (O : List (List Int)) (L : List Nd) (v : Nat) (x : Nd) (w : World) (h : ZoneB B w pz mn lw hi O L) (hx : L[v]? = some x) :
    Calls Tryz.prog 81 #[.pointer (some ⟨pz, 0, none⟩), .int .i64 v] w fun e w' => ∃ pb bf bt, e = .returned (.tuple #[.pointer (some ⟨pb, 0, none⟩), .nilIface]) ∧ Bud w' pb x.n bf bt x.F x.T ∧ Below w.heap.size w w' := by
  have hl := (List.getElem?_eq_some_iff.1 hx).1
  have NO := Lib.hid (node_ok pz mn lw hi O L v w h hl)
  have HH := Lib.hid h; have HX := Lib.hid hx
  have v0 : (0 : Int) ≤ (v : Int) := by omega
  have v1 : (v : Int) < (L.length : Int) := by omega
  clear h hx
  go_enter Tryz.func81, Tryz.ntmps81
  go_wp2_with fail
  refine NO.out.mono ?_
  rintro e w1 ⟨rfl, hb1⟩
  have h1 := HH.out.below hb1
  obtain ⟨qn, kn, qo, ko, hz, hr, _⟩ := h1.z
  have c5 := hz.c 5 _ rfl; have cl := hz.lt
  obtain ⟨p, cap, e, hc1, hc2, hcc⟩ := hr.form
  obtain ⟨g, off, rfl, _, hg, hc⟩ := hcc v _ (ptrs_get HX.out)
  injection e with ea eb ec
  subst ea ec
  have gl := hg
  rw [ptrs_length] at hc1
  have hb := (h1.b.bud x (List.mem_of_getElem? HX.out)).1
  have CP := Lib.hid (fun W (hW : Below w1.heap.size w1 W) => copy_ok x.pb x.n x.bf x.bt x.F x.T W (hb.keep (Keep.of (S := []) hW) (by simp) (by simp) (by simp)))
  unfold maxLen at hc2
  clear NO hz hr hcc h1 hb eb
  go_wp2_with fail
  refine (CP.out _ (by repeat (first | exact Below.refl _ _ | refine Below.drew ?_ | refine below_drewN ?_ _ | refine Below.trans ?_ (Below.mono (by assumption) (by first | omega | (simp; omega) | (simp; done))) | refine Below.alloc ?_ (by first | omega | (simp; omega) | (simp; done)) _ | refine Below.setCell ?_ (by first | omega | (simp; omega) | (simp; done)) _))).mono ?_
  rintro e w2 ⟨pb', bf', bt', rfl, hb2, _, hk⟩
  have K2 : Below w.heap.size w w2 := hb1.trans ((Below.trans (by repeat (first | exact Below.refl _ _ | refine Below.drew ?_ | refine below_drewN ?_ _ | refine Below.trans ?_ (Below.mono (by assumption) (by first | omega | (simp; omega) | (simp; done))) | refine Below.alloc ?_ (by first | omega | (simp; omega) | (simp; done)) _ | refine Below.setCell ?_ (by first | omega | (simp; omega) | (simp; done)) _)) hk).mono hb1.size)
  go_wp2
  go_ret2
  exact ⟨pb', bf', bt', rfl, hb2, K2⟩
set_option maxHeartbeats 1000000 in
theorem znode_err {B : Nat} {ev : Nat → Addr} (pz : Nat) (mn lw hi : Int) (O : List (List Int)) (L : List Nd) (v : Int) (w : World) (hE : ErrC B ev w) (h : ZoneB B w pz mn lw hi O L) (hL : 0 < L.length) (hv : v < 0 ∨ (L.length : Int) ≤ v) :
    Calls Tryz.prog 81 #[.pointer (some ⟨pz, 0, none⟩), .int .i64 v] w fun e w' => e = .returned (.tuple #[.pointer none, errV ev 2]) ∧ Below w.heap.size w w' := by
  have NO := Lib.hid (node_err pz mn lw hi O L v w hE h hL hv)
  have e1 : errV ev 2 = .iface 291 (.pointer (some (ev 2))) := rfl
  rw [e1] at NO ⊢
  clear h hv hE e1
  go_enter Tryz.func81, Tryz.ntmps81
  go_wp2_with fail
  refine NO.out.mono ?_
  rintro e w1 ⟨rfl, hb1⟩
  go_wp2
  go_ret2
  exact ⟨rfl, hb1⟩

set_option maxHeartbeats 8000000 in
set_option maxRecDepth 100000 in
theorem asZone_ok {B B' : Nat} {ev : Nat → Addr} {X : List Nat} (pz pm gN : Nat) (mn lw hi : Int) (O : List (List Int)) (M : List Nat) (L : List Nd) (w : World) (hE : Errs B ev w) (hB1 : B ≤ B') (hB2 : B' ≤ w.heap.size) (h : ZoneB B' w pz mn lw hi O L) (hr : RZ X w pm gN mn lw hi O M L) (hL : 0 < L.length) (hL4 : L.length ≤ 4) :
    Calls Tryz.prog 28 #[.pointer (some ⟨pz, 0, none⟩), .pointer (some ⟨pm, 0, none⟩)] w fun e w' => e = .returned (.bool true) ∧ Below w.heap.size w w' := by
  have HE := Lib.hid hE; have HZ := Lib.hid h; have HR := Lib.hid hr
  clear hE h hr
  obtain ⟨n, hn⟩ : ∃ n, n = L.length := ⟨_, rfl⟩
  have EN := Lib.hid hn
  rw [← hn] at hL hL4
  clear hn
  go_enter Tryz.func28, Tryz.ntmps28
  go_wp2_with fail
  go_loopw [5] (fun iv wr => ∃ i : Int, -1 ≤ i ∧ i ≤ n + 1 ∧ iv = .int .i64 i ∧ Below w.heap.size w wr) (fun iv _ => (n + 1 - intOf iv).toNat)
  case atStart => exact ⟨-1, by omega, by omega, rfl, Below.refl _ _⟩
  case round =>
    obtain ⟨i, hi0, hi1, rfl, hbel⟩ := hrel
    have hr := HR.out.below hbel
    obtain ⟨vP, vN, kn, ko, qo, hz, hkn, hkm, _⟩ := hr.z
    rw [← EN.out] at hz hkn
    have z5 := hz.c 5 _ rfl; have z3 := hz.c 3 _ rfl; have zl := hz.lt
    have HZL := Lib.hid hz
    unfold maxLen at hkm
    clear hz hr
    by_cases hin : i ≤ n
    · have d0 : decide (i ≤ (n : Int)) = true := decide_eq_true hin
      have HBD := Lib.hid hin
      have zb := HZ.out.below hbel
      have Er := HE.out.go hbel
      by_cases hgood : 0 ≤ i ∧ i < n
      · obtain ⟨v, rfl⟩ : ∃ v : Nat, i = v := ⟨i.toNat, by omega⟩
        obtain ⟨x, hx⟩ : ∃ x, L[v]? = some x := ⟨L[v]'(by rw [← EN.out]; omega), List.getElem?_eq_getElem _⟩
        have hI := HR.out.inv x (List.mem_of_getElem? hx)
        have s1 := hI.sumF.1
        have s2 : sumL x.F ≤ 256 := by have := hI.sumF.2; have := hI.n2; omega
        obtain ⟨m, hm⟩ : ∃ m, M[v]? = some m := ⟨M[v]'(by rw [HR.out.len]; exact (List.getElem?_eq_some_iff.1 hx).1), List.getElem?_eq_getElem _⟩
        have HX := Lib.hid hx; have HM := Lib.hid hm; have HI := Lib.hid hI
        have LO := Lib.hid (fun W (hW : Below wr.heap.size wr W) => low_ok pz mn lw hi O L v x W (zb.below hW) hx)
        have LA := Lib.hid (fun W (hW : Below wr.heap.size wr W) => lack_ok pz mn lw hi O L v x W (zb.below hW) hx)
        have FR := Lib.hid (fun W (hW : Below wr.heap.size wr W) => zfree_ok pz mn lw hi O L v x W (zb.below hW) hx)
        have ND := Lib.hid (fun W (hW : Below wr.heap.size wr W) => znode_ok pz mn lw hi O L v x W (zb.below hW) hx)
        have rz := HR.out.below hbel
        have IN := Lib.hid (fun W (hW : Below wr.heap.size wr W) => isNode_any pm gN mn lw hi O M L v W (rz.below hW))
        have RL := Lib.hid (fun W (hW : Below wr.heap.size wr W) => rlack_ok pm gN mn lw hi O M L v x W (rz.below hW) hx)
        obtain ⟨vF, vT, hb⟩ := rz.bud v m x hm hx
        have FP := Lib.hid (fun W (hW : Below wr.heap.size wr W) => freePages_ok m x.n vF vT x.F x.T W (hb.below hW) hI)
        have AB := Lib.hid (fun W pb bf bt (hW : Below wr.heap.size wr W) (hbud : Bud W pb x.n bf bt x.F x.T) => asBuddy_ok pb m x.n bf bt vF vT x.F x.T W hbud (hb.below hW) hI)
        have gN0 := rz.nodes.c v _ (mptrs_get hm); have gNl := rz.nodes.lt
        have HGN := Lib.hid rz.nodes
        have v0 : (0 : Int) ≤ (v : Int) := by omega
        have v1 : (v : Int) < (n : Int) := by omega
        have hd : decide (0 ≤ (v : Int) ∧ (v : Int) < (L.length : Int)) = true := decide_eq_true ⟨by omega, by rw [← EN.out]; omega⟩
        have HDD := Lib.hid hd
        generalize hs : sumL x.F = s at *
        have HS := Lib.hid hs
        obtain ⟨b, hbq⟩ : ∃ b : Bool, decide (s < lw) = b := ⟨_, rfl⟩
        rw [hbq] at LO
        clear hx hm hI zb rz hb hgood hin hd hs
        go_wp2_with fail
        refine (LO.out _ (Below.refl _ _)).mono ?_
        rintro e w1 ⟨rfl, hb1⟩
        go_wp2_with fail
        refine (LA.out _ hb1).mono ?_
        rintro e w2 ⟨rfl, hb2⟩
        have K2 := hb1.trans (hb2.mono hb1.size)
        go_wp2_with fail
        refine (FR.out _ K2).mono ?_
        rintro e w3 ⟨rfl, hb3⟩
        have K3 := K2.trans (hb3.mono K2.size)
        go_wp2_with fail
        refine (ND.out _ K3).mono ?_
        rintro e w4 ⟨pb, bf, bt, rfl, hbud, hb4⟩
        have K4 := K3.trans (hb4.mono K3.size)
        have HBU := Lib.hid hbud
        clear hbud
        go_wp2_with fail
        refine (IN.out _ K4).mono ?_
        rw [HDD.out]
        rintro e w5 ⟨rfl, hb5⟩
        have K5 := K4.trans (hb5.mono K4.size)
        have y5 := (HZL.out.go K5).c 5 _ rfl; have yl := (HZL.out.go K5).lt; have y3 := (HZL.out.go K5).c 3 _ rfl
        have g5 := (HGN.out.go K5).c v _ (mptrs_get HM.out); have gl5 := (HGN.out.go K5).lt
        clear z5 z3 zl gN0 gNl
        go_wp2_with fail
        refine (FP.out _ K5).mono ?_
        rintro e w6 ⟨rfl, hb6⟩
        have K6 := K5.trans (hb6.mono K5.size)
        have y5 := (HZL.out.go K6).c 5 _ rfl; have yl := (HZL.out.go K6).lt; have y3 := (HZL.out.go K6).c 3 _ rfl
        have g5 := (HGN.out.go K6).c v _ (mptrs_get HM.out); have gl5 := (HGN.out.go K6).lt
        go_wp2_with fail
        refine (RL.out _ K6).mono ?_
        rintro e w7 ⟨rfl, hb7⟩
        have K7 := K6.trans (hb7.mono K6.size)
        have y5 := (HZL.out.go K7).c 5 _ rfl; have yl := (HZL.out.go K7).lt
        have g5 := (HGN.out.go K7).c v _ (mptrs_get HM.out); have gl5 := (HGN.out.go K7).lt
        have K47 : Below w4.heap.size w4 w7 := hb5.trans ((hb6.trans (hb7.mono hb6.size)).mono hb5.size)
        have AB7 := Lib.hid (AB.out w7 pb bf bt K7 (HBU.out.keep (Keep.of (S := []) K47) (by simp) (by simp) (by simp)))
        clear AB
        go_wp2_with fail
        refine AB7.out.mono ?_
        rintro e w8 ⟨rfl, hb8⟩
        have K8 := hbel.trans ((K7.trans (hb8.mono K7.size)).mono hbel.size)
        go_wp2
        go_roundw
        case rel => exact ⟨(v : Int) + 1, by omega, by omega, by go_num, K8⟩
        case measure => simp [intOf]; omega
      · have hbad : i < 0 ∨ (L.length : Int) ≤ i := by have := EN.out; omega
        have hLL : 0 < L.length := by have := EN.out; omega
        have LO := Lib.hid (fun W (hW : Below wr.heap.size wr W) => low_err pz mn lw hi O L i W ((Er.go hW).c.up hB1 (by have := hW.size; have := hbel.size; omega)) (zb.below hW) hLL hbad)
        have LA := Lib.hid (fun W (hW : Below wr.heap.size wr W) => lack_err pz mn lw hi O L i W ((Er.go hW).c.up hB1 (by have := hW.size; have := hbel.size; omega)) (zb.below hW) hLL hbad)
        have FR := Lib.hid (fun W (hW : Below wr.heap.size wr W) => zfree_err pz mn lw hi O L i W ((Er.go hW).c.up hB1 (by have := hW.size; have := hbel.size; omega)) (zb.below hW) hLL hbad)
        have ND := Lib.hid (fun W (hW : Below wr.heap.size wr W) => znode_err pz mn lw hi O L i W ((Er.go hW).c.up hB1 (by have := hW.size; have := hbel.size; omega)) (zb.below hW) hLL hbad)
        have rz := HR.out.below hbel
        have hd : decide (0 ≤ i ∧ i < (L.length : Int)) = false := decide_eq_false (by omega)
        have IN := Lib.hid (fun W (hW : Below wr.heap.size wr W) => isNode_any pm gN mn lw hi O M L i W (rz.below hW))
        have CD := Lib.hid (fun W (hW : Below wr.heap.size wr W) => coded_at 2 2 W (Er.go hW) (by omega) rfl)
        have HDD := Lib.hid hd
        obtain ⟨E2, hE2⟩ : ∃ E2, E2 = errV ev 2 := ⟨_, rfl⟩
        rw [← hE2] at LO LA FR ND CD
        clear zb rz hgood hin hd hbad hE2 Er
        go_wp2_with fail
        refine (LO.out _ (Below.refl _ _)).mono ?_
        rintro e w1 ⟨rfl, hb1⟩
        go_wp2_with fail
        refine (LA.out _ hb1).mono ?_
        rintro e w2 ⟨rfl, hb2⟩
        have K2 := hb1.trans (hb2.mono hb1.size)
        go_wp2_with fail
        refine (FR.out _ K2).mono ?_
        rintro e w3 ⟨rfl, hb3⟩
        have K3 := K2.trans (hb3.mono K2.size)
        go_wp2_with fail
        refine (ND.out _ K3).mono ?_
        rintro e w4 ⟨rfl, hb4⟩
        have K4 := K3.trans (hb4.mono K3.size)
        go_wp2_with fail
        refine (IN.out _ K4).mono ?_
        rw [HDD.out]
        rintro e w5 ⟨rfl, hb5⟩
        have K5 := K4.trans (hb5.mono K4.size)
        go_wp2_with fail
        refine (CD.out _ K5).mono ?_
        rintro e w6 ⟨rfl, hb6⟩
        have K6 := K5.trans (hb6.mono K5.size)
        go_wp2_with fail
        refine (CD.out _ K6).mono ?_
        rintro e w7 ⟨rfl, hb7⟩
        have K7 := K6.trans (hb7.mono K6.size)
        go_wp2_with fail
        refine (CD.out _ K7).mono ?_
        rintro e w8 ⟨rfl, hb8⟩
        have K8 := K7.trans (hb8.mono K7.size)
        go_wp2_with fail
        refine (CD.out _ K8).mono ?_
        rintro e w9 ⟨rfl, hb9⟩
        have K9 := hbel.trans ((K8.trans (hb9.mono K8.size)).mono hbel.size)
        go_wp2
        go_roundw
        case rel => exact ⟨i + 1, by omega, by have := HBD.out; omega, by go_num, K9⟩
        case measure => have := HBD.out; simp [intOf]; omega
    · have d0 : decide (i ≤ (n : Int)) = false := decide_eq_false hin
      clear hin
      go_wp2
      go_ret
      exact ⟨rfl, hbel⟩
end Go.Proofs.YtcokmiidgdmdlaaGreatDoor
