/- Lemmas and contracts for the claim's last text: ZTake, SB, SCS. -/
import Derived.Deep.RegionHeld3
import Derived.Deep.DrawnRows
import Derived.Test.YtcokmiidgdmdlaaGreatDoorMo02
import Derived.Test.YtcokmiidgdmdlaaGreatDoorMo04
import Derived.Test.YtcokmiidgdmdlaaGreatDoorMo05
import Derived.Test.YtcokmiidgdmdlaaGreatDoorMo06
namespace Go.Proofs.YtcokmiidgdmdlaaGreatDoor
open Go.RowKit Go.Maps
set_option linter.unusedSimpArgs false
set_option linter.unusedVariables false
attribute [local go_sem ↓] Go.wp_at_zero Go.wp_at_succ

def plV (p : Pl) : Value := .agg #[.int .i64 p.1, .int .i64 p.2.1, .int .i64 p.2.2]

/-- package zone's sentinels: those of buddy, and ErrLow -/
structure ErrZ (B : Nat) (ev : Nat → Addr) (w : World) : Prop where
  d : ErrD B ev w
  l7 : 0 < B
  c7 : w.cell? ⟨0, 0, none⟩ = some (errV ev 7)
theorem ErrZ.below {B : Nat} {ev : Nat → Addr} {w w' : World} (h : ErrZ B ev w) (hb : Below B w w') : ErrZ B ev w' :=
  ⟨h.d.below hb, h.l7, (hb.cell (p := ⟨0, 0, none⟩) h.l7).trans h.c7⟩
theorem ErrZ.size {B : Nat} {ev : Nat → Addr} {w : World} (h : ErrZ B ev w) : B ≤ w.heap.size := h.d.size
theorem ErrZ.go {B : Nat} {ev : Nat → Addr} {w w' : World} (h : ErrZ B ev w) (hb : Below w.heap.size w w') : ErrZ B ev w' := h.below (hb.mono h.size)
theorem ErrZ.c {B : Nat} {ev : Nat → Addr} {w : World} (h : ErrZ B ev w) : ErrC B ev w := h.d.c

set_option maxHeartbeats 1000000 in
theorem ztake_node {B : Nat} {ev : Nat → Addr} (pz : Nat) (mn lw hi : Int) (O : List (List Int)) (L : List Nd) (v k : Int) (u : Bool) (w : World) (hE : ErrZ B ev w) (h : ZoneB B w pz mn lw hi O L) (hL : 0 < L.length) (hv : v < 0 ∨ (L.length : Int) ≤ v) :
    Calls Tryz.prog 16 #[.pointer (some ⟨pz, 0, none⟩), .int .i64 v, .int .i64 k, .bool u] w fun e w' => e = .returned (.tuple #[plV (0, 0, 0), errV ev 2]) ∧ Below w.heap.size w w' := by
  have hB := hE.size
  have hb0 : Below w.heap.size w ((w.alloc (.cells #[.int .i64 k] 3)).alloc (.cells #[.int .i64 0, .int .i64 0, .int .i64 0] 41)) := (by repeat (first | exact Below.refl _ _ | refine Below.drew ?_ | refine below_drewN ?_ _ | refine Below.trans ?_ (Below.mono (by assumption) (by first | omega | (simp; omega) | (simp; done))) | refine Below.alloc ?_ (by first | omega | (simp; omega) | (simp; done)) _ | refine Below.setCell ?_ (by first | omega | (simp; omega) | (simp; done)) _))
  have NO := Lib.hid (node_err pz mn lw hi O L v _ (hE.c.below (hb0.mono hB)) (h.below hb0) hL hv)
  have L1 := Lib.hid (LocN.mk_ (w.alloc (.cells #[.int .i64 k] 3)) [.int .i64 0, .int .i64 0, .int .i64 0] 41 (b := w.heap.size + 1) (by simp))
  have e1 : errV ev 2 = .iface 291 (.pointer (some (ev 2))) := rfl
  rw [e1] at NO ⊢
  clear h hv hE e1 hb0
  go_enter Tryz.func16, Tryz.ntmps16
  go_wp2_with fail
  refine NO.out.mono ?_
  rintro e w1 ⟨rfl, hb1⟩
  have M := L1.out.go hb1
  have m0 := M.c 0 _ rfl; have m1 := M.c 1 _ rfl; have m2 := M.c 2 _ rfl; have f0 := M.f 0 (by simp); have f1 := M.f 1 (by simp); have f2 := M.f 2 (by simp); have ml := M.lt
  have HM := Lib.hid (M.store3 (.int .i64 0) (.int .i64 0) (.int .i64 0))
  clear M NO L1
  go_wp2
  have x0 := HM.out.c 0 _ rfl; have x1 := HM.out.c 1 _ rfl; have x2 := HM.out.c 2 _ rfl
  exact bodyPost_ret (v := .tuple #[.agg #[.int .i64 0, .int .i64 0, .int .i64 0], .iface 291 (.pointer (some (ev 2)))]) (by simp [x0, x1, x2, results, Tryz.results16, go_sem]) rfl ⟨rfl, (by repeat (first | exact Below.refl _ _ | refine Below.drew ?_ | refine below_drewN ?_ _ | refine Below.trans ?_ (Below.mono (by assumption) (by first | omega | (simp; omega) | (simp; done))) | refine Below.alloc ?_ (by first | omega | (simp; omega) | (simp; done)) _ | refine Below.setCell ?_ (by first | omega | (simp; omega) | (simp; done)) _))⟩

set_option maxHeartbeats 1000000 in
theorem ztake_order {B : Nat} {ev : Nat → Addr} (pz : Nat) (mn lw hi : Int) (O : List (List Int)) (L : List Nd) (v : Nat) (k : Int) (u : Bool) (w : World) (hE : ErrZ B ev w) (h : ZoneB B w pz mn lw hi O L) (hv : v < L.length) (hk : k < 0 ∨ 6 < k) :
    Calls Tryz.prog 16 #[.pointer (some ⟨pz, 0, none⟩), .int .i64 v, .int .i64 k, .bool u] w fun e w' => e = .returned (.tuple #[plV (0, 0, 0), errV ev 2]) ∧ Below w.heap.size w w' := by
  have hB := hE.size
  have hb0 : Below w.heap.size w ((w.alloc (.cells #[.int .i64 k] 3)).alloc (.cells #[.int .i64 0, .int .i64 0, .int .i64 0] 41)) := (by repeat (first | exact Below.refl _ _ | refine Below.drew ?_ | refine below_drewN ?_ _ | refine Below.trans ?_ (Below.mono (by assumption) (by first | omega | (simp; omega) | (simp; done))) | refine Below.alloc ?_ (by first | omega | (simp; omega) | (simp; done)) _ | refine Below.setCell ?_ (by first | omega | (simp; omega) | (simp; done)) _))
  have NO := Lib.hid (node_ok pz mn lw hi O L v _ (h.below hb0) hv)
  have L0 := Lib.hid ((LocN.mk_ w [.int .i64 k] 3 rfl).past (.cells #[.int .i64 0, .int .i64 0, .int .i64 0] 41))
  have L1 := Lib.hid (LocN.mk_ (w.alloc (.cells #[.int .i64 k] 3)) [.int .i64 0, .int .i64 0, .int .i64 0] 41 (b := w.heap.size + 1) (by simp))
  have e1 : errV ev 2 = .iface 291 (.pointer (some (ev 2))) := rfl
  have SZ : Hid (∀ W, Below w.heap.size w W → Calls Tryz.prog 58 #[.int .i64 k] W fun e w' => e = .returned (.tuple #[.int .i64 0, errV ev 2]) ∧ Below W.heap.size W w') := fun W hb => size_no k W (hE.c.below (hb.mono hB)) hk
  rw [e1] at SZ ⊢
  clear h hv hE e1 hb0
  go_enter Tryz.func16, Tryz.ntmps16
  go_wp2_with fail
  refine NO.out.mono ?_
  rintro e w1 ⟨rfl, hb1⟩
  have P := L0.out.go hb1
  have p0 := P.c 0 _ rfl; have pl := P.lt
  have M := Lib.hid (L1.out.go hb1)
  clear P NO L0 L1
  go_wp2_with fail
  refine (SZ.out _ (by repeat (first | exact Below.refl _ _ | refine Below.drew ?_ | refine below_drewN ?_ _ | refine Below.trans ?_ (Below.mono (by assumption) (by first | omega | (simp; omega) | (simp; done))) | refine Below.alloc ?_ (by first | omega | (simp; omega) | (simp; done)) _ | refine Below.setCell ?_ (by first | omega | (simp; omega) | (simp; done)) _))).mono ?_
  rintro e w2 ⟨rfl, hb2⟩
  have M2 := M.out.go hb2
  have m0 := M2.c 0 _ rfl; have m1 := M2.c 1 _ rfl; have m2 := M2.c 2 _ rfl; have f0 := M2.f 0 (by simp); have f1 := M2.f 1 (by simp); have f2 := M2.f 2 (by simp); have ml := M2.lt
  have HM := Lib.hid (M2.store3 (.int .i64 0) (.int .i64 0) (.int .i64 0))
  clear M2 SZ M p0
  have z1 := hb1.size; simp at z1
  go_wp2
  have x0 := HM.out.c 0 _ rfl; have x1 := HM.out.c 1 _ rfl; have x2 := HM.out.c 2 _ rfl
  exact bodyPost_ret (v := .tuple #[.agg #[.int .i64 0, .int .i64 0, .int .i64 0], .iface 291 (.pointer (some (ev 2)))]) (by simp [x0, x1, x2, results, Tryz.results16, go_sem]) rfl ⟨rfl, (by repeat (first | exact Below.refl _ _ | refine Below.drew ?_ | refine below_drewN ?_ _ | refine Below.trans ?_ (Below.mono (by assumption) (by first | omega | (simp; omega) | (simp; done))) | refine Below.alloc ?_ (by first | omega | (simp; omega) | (simp; done)) _ | refine Below.setCell ?_ (by first | omega | (simp; omega) | (simp; done)) _))⟩

theorem ZoneB.row {B : Nat} {w : World} {pz : Nat} {mn lw hi : Int} {O : List (List Int)} {L : List Nd} (h : ZoneB B w pz mn lw hi O L) {v : Nat} {D : List Int} (hD : O[v]? = some D) (hD0 : 0 < D.length) :
    ∃ g off kn gO oO ko gD oD kD, LocN w pz [.slice none 0 0, .slice none 0 0, .int .i64 mn, .int .i64 lw, .int .i64 hi, .slice (some ⟨g, off, none⟩) L.length kn, .slice (some ⟨gO, oO, none⟩) L.length ko] ∧ (g ∉ ys L ∧ g < w.heap.size) ∧ (gO ∉ ys L ∧ gO < w.heap.size) ∧ (gD ∉ ys L ∧ gD < w.heap.size) ∧ (L.length ≤ kn ∧ kn ≤ maxLen) ∧ (L.length ≤ ko ∧ ko ≤ maxLen) ∧ (D.length ≤ kD ∧ kD ≤ maxLen) ∧
      (∀ j y, L[j]? = some y → w.cell? ⟨g, off + j, none⟩ = some (.pointer (some ⟨y.pb, 0, none⟩))) ∧ w.cell? ⟨gO, oO + v, none⟩ = some (.slice (some ⟨gD, oD, none⟩) D.length kD) ∧ ∀ t z, D[t]? = some z → w.cell? ⟨gD, oD + t, none⟩ = some (.int .i64 z) := by
  have hl : v < L.length := by rw [← h.ord.1]; exact (List.getElem?_eq_some_iff.1 hD).1
  obtain ⟨g, off, kn, qo, ko, hz, hg, hgl, hk1, hk2, hc, hr⟩ := h.open (by omega)
  obtain ⟨p, cap, e, hc1, hc2, hn⟩ := hr.form
  rw [h.ord.1] at e hc1
  injection e with e1 e2 e3
  subst e1 e3
  obtain ⟨gO, oO, u, rfl, hgO, hgOl, hcu, hu⟩ := hn v D hD
  obtain ⟨pD, kD, rfl, hkD, hmD, hcD⟩ := hu.int
  obtain ⟨x, hx⟩ : ∃ x, D[0]? = some x := ⟨D[0], List.getElem?_eq_getElem hD0⟩
  obtain ⟨gD, oD, rfl, hgD, hgDl, _⟩ := hcD 0 x hx
  refine ⟨g, off, kn, gO, oO, ko, gD, oD, kD, hz, ⟨hg, hgl⟩, ⟨hgO, hgOl⟩, ⟨hgD, hgDl⟩, ⟨hk1, hk2⟩, ⟨hc1, hc2⟩, ⟨hkD, hmD⟩, hc, hcu, fun t z ht => ?_⟩
  obtain ⟨g', o', e, _, _, q⟩ := hcD t z ht
  injection e with e; injection e with ea eb
  subst ea eb
  exact q
theorem take_snoc {α : Type} {D : List α} {t : Nat} {z : α} {P : α → Prop} (h : ∀ y ∈ D.take t, P y) (hz : D[t]? = some z) (hp : P z) : ∀ y ∈ D.take (t + 1), P y := by
  rw [List.take_add_one, hz]
  intro y hy
  simp at hy
  rcases hy with hy | rfl
  · exact h y hy
  · exact hp

/-- what a take of a zone comes to -/
def TakePost (B : Nat) (ev : Nat → Addr) (pz : Nat) (mn lw hi : Int) (O : List (List Int)) (L : List Nd) (w : World) (r : List Nd × Nat × Pl) (e : Ending) (w' : World) : Prop :=
  e = .returned (.tuple #[plV r.2.2, errV ev r.2.1]) ∧ ZoneB B w' pz mn lw hi O r.1 ∧ Keep (ys L) w w'

theorem zhit {B : Nat} {ev : Nat → Addr} {pz : Nat} {mn lw hi : Int} {O : List (List Int)} {L : List Nd} {r : List Nd × Nat × Pl} {w w3 w4 : World} {k : Int} {zn : Nat} {x : Nd} {b : Int × Int} (hr : r = (L.set (zn : Int).toNat (tookN k b x), 0, ((zn : Int), b.1, k)))
    (h : ZoneB B w pz mn lw hi O L) (hx : L[zn]? = some x) (hI : Inv x.n (takeF k b x.F) (putL b.1 k x.T)) (hb : Bud w3 x.pb x.n x.bf x.bt (takeF k b x.F) (putL b.1 k x.T)) (h3 : Keep [x.bf, x.bt] w w3) (h4 : Keep [x.bf, x.bt] w w4) {c1 c2 : Nat} (h34 : Keep [c1, c2] w3 w4) (hc1 : w.heap.size ≤ c1) (hc2 : w.heap.size ≤ c2) :
    TakePost B ev pz mn lw hi O L w r (.returned (.tuple #[plV ((zn : Int), b.1, k), .nilIface])) w4 := by
  have hxm := List.mem_of_getElem? hx
  have b0 := h.b.bud x hxm
  have e1 := b0.1.ltp; have e2 := b0.1.ltf; have e3 := b0.1.ltt
  have hb4 : Bud w4 x.pb x.n x.bf x.bt (takeF k b x.F) (putL b.1 k x.T) := hb.keep h34 (by simp; omega) (by simp; omega) (by simp; omega)
  obtain ⟨q1, q2⟩ := ZoneB.keep (S := []) h hx hb4 hI h4
  subst hr
  exact ⟨rfl, by rw [Int.toNat_natCast]; exact q1, q2⟩

set_option maxHeartbeats 8000000 in
set_option maxRecDepth 100000 in
theorem ztake_main {B : Nat} {ev : Nat → Addr} (pz : Nat) (mn lw hi : Int) (O : List (List Int)) (L : List Nd) (v : Nat) (k : Int) (u : Bool) (w : World) (hE : ErrZ B ev w) (h : ZoneB B w pz mn lw hi O L) (hv : v < L.length) (k0 : 0 ≤ k) (k6 : k ≤ 6) :
    Calls Tryz.prog 16 #[.pointer (some ⟨pz, 0, none⟩), .int .i64 v, .int .i64 k, .bool u] w (TakePost B ev pz mn lw hi O L w (takeZ mn O L v k u)) := by
  have hB := hE.size
  obtain ⟨D, hD, hDl, hDm⟩ := h.ord.get hv
  have hn0 : 0 < D.length := by omega
  have hnn : ¬ ((v : Int) < 0 ∨ (L.length : Int) ≤ (v : Int) ∨ k < 0 ∨ 6 < k) := by omega
  have TNO : Hid (pickZ mn k u L D = none → takeZ mn O L v k u = (L, lowZ k L, (0, 0, 0))) := fun hp => takeZ_no hnn (by simpa using hD) hp
  have TYES : Hid (∀ (j : Int) (x : Nd) (b : Int × Int), pickZ mn k u L D = some j → L[j.toNat]? = some x → bestL k x.F = some b → takeZ mn O L v k u = (L.set j.toNat (tookN k b x), 0, (j, b.1, k))) := fun j x b hp hx hb => takeZ_yes hnn (by simpa using hD) hp hx hb
  have hb0 : Below w.heap.size w ((w.alloc (.cells #[.int .i64 k] 3)).alloc (.cells #[.int .i64 0, .int .i64 0, .int .i64 0] 41)) := (by repeat (first | exact Below.refl _ _ | refine Below.drew ?_ | refine below_drewN ?_ _ | refine Below.trans ?_ (Below.mono (by assumption) (by first | omega | (simp; omega) | (simp; done))) | refine Below.alloc ?_ (by first | omega | (simp; omega) | (simp; done)) _ | refine Below.setCell ?_ (by first | omega | (simp; omega) | (simp; done)) _))
  have NO := Lib.hid (node_ok pz mn lw hi O L v _ (h.below hb0) hv)
  have L0 := Lib.hid ((LocN.mk_ w [.int .i64 k] 3 rfl).past (.cells #[.int .i64 0, .int .i64 0, .int .i64 0] 41))
  have L1 := Lib.hid (LocN.mk_ (w.alloc (.cells #[.int .i64 k] 3)) [.int .i64 0, .int .i64 0, .int .i64 0] 41 (b := w.heap.size + 1) (by simp))
  have HH := Lib.hid h; have HD := Lib.hid hD; have HDM := Lib.hid hDm; have HDL := Lib.hid hDl; have HB0 := Lib.hid hb0
  have hs := shl_sz' k0 k6
  obtain ⟨n, hn⟩ : ∃ n, n = L.length := ⟨_, rfl⟩
  clear h hb0 hD hDm hDl hnn
  go_enter Tryz.func16, Tryz.ntmps16
  go_wp2_with fail
  refine NO.out.mono ?_
  rintro e w1 ⟨rfl, hb1⟩
  have K1 : Below w.heap.size w w1 := HB0.out.trans (hb1.mono (by simp; omega))
  have h1 := HH.out.below K1
  obtain ⟨g, off, kn, gO, oO, ko, gD, oD, kD, hz, ⟨gy, gl⟩, ⟨gOy, gOl⟩, ⟨gDy, gDl⟩, ⟨ka, kb⟩, ⟨kc, kd⟩, ⟨ke, kf⟩, hc, hcu, hcD⟩ := h1.row HD.out hn0
  have c5 := hz.c 5 _ rfl; have c6 := hz.c 6 _ rfl; have cl := hz.lt
  have P := L0.out.go hb1
  have p0 := P.c 0 _ rfl; have pl := P.lt
  have HP := Lib.hid P; have HM := Lib.hid (L1.out.go hb1); have HZ := Lib.hid hz; have HC := Lib.hid hc; have HCD := Lib.hid hcD
  have ml := HM.out.lt
  have H1 := Lib.hid h1
  unfold maxLen at kb kd kf
  clear P NO L0 L1 hz hc hcD h1 HB0
  go_wp2_with (go_at_call 58; refine (size_yes _ _ ⟨k0, k6⟩).mono ?_; rintro e w' ⟨rfl, rfl⟩)
  go_loopw [43] (fun iv wr => ∃ t : Nat, t ≤ D.length ∧ iv = .int .i64 t ∧ Hid (∀ z ∈ D.take t, okAt mn k u L z = false) ∧ Below w1.heap.size w1 wr) (fun iv _ => D.length - (intOf iv).toNat)
  case atStart => exact ⟨0, Nat.zero_le _, by go_num, (show ∀ z ∈ D.take 0, okAt mn k u L z = false from by simp), Below.refl _ _⟩
  case round =>
    obtain ⟨t, ht, rfl, NOK, hbel⟩ := hrel
    have zr := hbel.size
    have KR : Below w.heap.size w wr := K1.trans (hbel.mono (by have := K1.size; omega))
    by_cases hlt : t < D.length
    · obtain ⟨z, hz⟩ : ∃ z, D[t]? = some z := ⟨D[t], List.getElem?_eq_getElem hlt⟩
      have hzm := (HDM.out z).1 (List.mem_of_getElem? hz)
      obtain ⟨zn, rfl⟩ : ∃ zn : Nat, z = zn := ⟨z.toNat, by omega⟩
      obtain ⟨x, hx⟩ : ∃ x, L[zn]? = some x := ⟨L[zn]'(by omega), List.getElem?_eq_getElem _⟩
      have r0 := (hbel.cell (p := ⟨gD, oD + t, none⟩) gDl).trans (HCD.out t _ hz)
      have q0 := (HP.out.go hbel).c 0 _ rfl
      have ql := (HP.out.go hbel).lt
      have hzone := HH.out.below KR
      have MAY := Lib.hid (may_any pz mn lw hi O L zn x k u wr hzone hx k0 k6)
      have HX := Lib.hid hx; have HZT := Lib.hid hz
      have gr : gD < wr.heap.size := by omega
      cases hmay : mayN mn k u x with
      | false =>
        rw [hmay] at MAY
        have hno : okAt mn k u L (zn : Int) = false := by unfold okAt; rw [Int.toNat_natCast, hx]; simp [okN, hmay]
        have NOK2 := Lib.hid (take_snoc NOK.out hz hno)
        clear hz hx hzone hno hmay
        go_wp2_with fail
        refine MAY.out.mono ?_
        rintro e w2 ⟨rfl, hb2⟩
        go_wp2
        go_roundw
        case rel => exact ⟨t + 1, by omega, by go_num, NOK2, hbel.trans (hb2.mono zr)⟩
        case measure => simp [intOf]; omega
      | true =>
        rw [hmay] at MAY
        have hI := (hzone.b.bud x (List.mem_of_getElem? hx)).2
        have hxm := List.mem_of_getElem? hx
        have hbfl := hzone.b.lim x.bf (ys_mem.2 ⟨x, hxm, .inl rfl⟩)
        have hbtl := hzone.b.lim x.bt (ys_mem.2 ⟨x, hxm, .inr rfl⟩)
        have hbf0 := HH.out.b.lim x.bf (ys_mem.2 ⟨x, hxm, .inl rfl⟩)
        have hbt0 := HH.out.b.lim x.bt (ys_mem.2 ⟨x, hxm, .inr rfl⟩)
        have cz : Hid (∀ W, Keep [x.bf, x.bt] wr W → W.cell? ⟨pz, 5, none⟩ = some (.slice (some ⟨g, off, none⟩) L.length kn)) := fun W q => (((HZ.out.go hbel).keep q (by have := H1.out.out; intro e; apply this; simp at e; exact ys_mem.2 ⟨x, hxm, e⟩)).c 5 _ rfl)
        have cr : Hid (∀ W, Keep [x.bf, x.bt] wr W → W.cell? ⟨g, off + zn, none⟩ = some (.pointer (some ⟨x.pb, 0, none⟩))) := fun W q => (q.cell (by omega) (by intro e; apply gy; simp at e; exact ys_mem.2 ⟨x, hxm, e⟩)).trans ((hbel.cell (p := ⟨g, off + zn, none⟩) gl).trans (HC.out zn x hx))
        have cp : Hid (∀ W, Keep [x.bf, x.bt] wr W → W.cell? ⟨w.heap.size, 0, none⟩ = some (.int .i64 k)) := fun W q => ((HP.out.go hbel).keep q (by simp; omega)).c 0 _ rfl
        have c8 : Hid (∀ W, Keep [x.bf, x.bt] wr W → LocN W (w.heap.size + 1) [.int .i64 0, .int .i64 0, .int .i64 0]) := fun W q => (HM.out.go hbel).keep q (by simp; omega)
        have hbud := (hzone.b.bud x hxm).1
        have HBUD := Lib.hid hbud
        have z5 : wr.heap.size ≤ wr.heap.size := Nat.le_refl _
        have HER : Hid (ErrZ B ev wr) := hE.go KR
        have HI := Lib.hid hI
        clear hzone hI hbud
        cases hbb : bestL k x.F with
        | none =>
          have TF : Hid (∀ W, Keep [] wr W → Calls Tryz.prog 60 #[.pointer (some ⟨x.pb, 0, none⟩), .int .i64 k] W fun e w' => e = .returned (.tuple #[.agg #[.int .i64 0, .int .i64 0], .iface 291 (.pointer (some (ev 5)))]) ∧ Below W.heap.size W w') := fun W q => take_full x.pb x.n x.bf x.bt x.F x.T k W (HER.out.go q.belowN).d (HBUD.out.keep q (by simp) (by simp) (by simp)) k0 k6 hbb
          have hno : okAt mn k u L (zn : Int) = false := by unfold okAt; rw [Int.toNat_natCast, hx]; simp [okN, hmay, hbb]
          have NOK2 := Lib.hid (take_snoc NOK.out hz hno)
          clear hz hx hno hbb hmay HBUD HER
          go_wp2_with fail
          refine MAY.out.mono ?_
          rintro e w2 ⟨rfl, hb2⟩
          have k2 : Keep [] wr w2 := Keep.of hb2
          have a1 := cz.out w2 k2.wide; have a2 := cr.out w2 k2.wide; have a3 := cp.out w2 k2.wide
          have HK2 := Lib.hid k2
          have z2 := hb2.size
          have ne1 : ¬ (w2.heap.size = pz) := by omega
          have ne2 : ¬ (w2.heap.size = g) := by omega
          have ne3 : ¬ (w2.heap.size = w.heap.size) := by omega
          have ne1' : ¬ (pz = w2.heap.size) := by omega
          have ne2' : ¬ (g = w2.heap.size) := by omega
          have ne3' : ¬ (w.heap.size = w2.heap.size) := by omega
          clear MAY k2 r0 q0
          go_wp2_with fail
          go_region_held3 (fun w' => w'.cell? ⟨pz, 5, none⟩ = some (.slice (some ⟨g, off, none⟩) L.length kn) ∧ w'.cell? ⟨g, off + zn, none⟩ = some (.pointer (some ⟨x.pb, 0, none⟩)) ∧ w'.cell? ⟨w.heap.size, 0, none⟩ = some (.int .i64 k)) (go_keep) (first
            | (go_at_call 60; refine (TF.out _ ?_).mono ?_; (repeat (first | exact HK2.out | refine Keep.alloc ?_ _ | refine Keep.drew ?_ | refine Keep.drewN ?_ _ | refine Keep.setCell ?_ (.inr (by first | omega | (simp; omega) | (simp; done))) _)); rintro e w3 ⟨rfl, hb3⟩; have k3' : Keep [] wr w3 := (by refine Keep.stepW ?_ hb3; (repeat (first | exact HK2.out | refine Keep.alloc ?_ _ | refine Keep.drew ?_ | refine Keep.drewN ?_ _ | refine Keep.setCell ?_ (.inr (by first | omega | (simp; omega) | (simp; done))) _))); have k3 : Keep [x.bf, x.bt] wr w3 := k3'.wide; have z3 := k3'.size; have b1 := cz.out w3 k3; have b2 := cr.out w3 k3; have b3 := cp.out w3 k3; (first | (have PN := ((LocN.mk_ w2 [.int .i64 0, .int .i64 0] 39 rfl).drewL).go hb3; have n0 := PN.c 0 _ rfl; have n1 := PN.c 1 _ rfl; have nf0 := PN.f 0 (by simp); have nf1 := PN.f 1 (by simp); have nl := PN.lt; clear PN) | skip)))
          all_goals
            go_wp2
            go_roundw
            case rel => exact ⟨t + 1, by omega, by go_num, NOK2, hbel.trans ((Keep.belowN (by repeat (first | exact k3' | refine Keep.alloc ?_ _ | refine Keep.drew ?_ | refine Keep.drewN ?_ _ | refine Keep.setCell ?_ (.inr (by first | omega | (simp; omega) | (simp; done))) _))).mono zr)⟩
            case measure => simp [intOf]; omega
        | some b =>
          have hpick : pickZ mn k u L D = some (zn : Int) := find_at NOK.out hz (by unfold okAt; rw [Int.toNat_natCast, hx]; simp [okN, hmay, hbb])
          have TT := Lib.hid (TYES.out (zn : Int) x b hpick (by rw [Int.toNat_natCast]; exact hx) hbb)
          have TK : Hid (∀ W, Keep [] wr W → Calls Tryz.prog 60 #[.pointer (some ⟨x.pb, 0, none⟩), .int .i64 k] W fun e w' => e = .returned (.tuple #[.agg #[.int .i64 b.1, .int .i64 k], .nilIface]) ∧ Bud w' x.pb x.n x.bf x.bt (takeF k b x.F) (putL b.1 k x.T) ∧ Keep [x.bf, x.bt] W w') := fun W q => take_ok x.pb x.n x.bf x.bt x.F x.T k b W (HER.out.go q.belowN).c hbfl.1 (HBUD.out.keep q (by simp) (by simp) (by simp)) HI.out k0 k6 hbb
          have HBB := Lib.hid hbb
          have HIT := Lib.hid (HI.out.take k0 hbb)
          obtain ⟨b1, b2⟩ := b
          simp only at TK TT
          clear hz hx hbb hmay HER hpick
          go_wp2_with fail
          refine MAY.out.mono ?_
          rintro e w2 ⟨rfl, hb2⟩
          have k2 : Keep [] wr w2 := Keep.of hb2
          have a1 := cz.out w2 k2.wide; have a2 := cr.out w2 k2.wide; have a3 := cp.out w2 k2.wide
          have HK2 := Lib.hid k2
          have z2 := hb2.size
          have ne1 : ¬ (w2.heap.size = pz) := by omega
          have ne2 : ¬ (w2.heap.size = g) := by omega
          have ne3 : ¬ (w2.heap.size = w.heap.size) := by omega
          have ne4 : ¬ (w2.heap.size = w.heap.size + 1) := by omega
          have ne1' : ¬ (pz = w2.heap.size) := by omega
          have ne2' : ¬ (g = w2.heap.size) := by omega
          have ne3' : ¬ (w.heap.size = w2.heap.size) := by omega
          have ne4' : ¬ (w.heap.size + 1 = w2.heap.size) := by omega
          have NB : Hid (w2.heap.size ∉ [x.bf, x.bt]) := by show _ ∉ _; simp; omega
          clear MAY k2 r0 q0
          go_wp2_with fail
          go_region_held3 (fun w' => w'.cell? ⟨pz, 5, none⟩ = some (.slice (some ⟨g, off, none⟩) L.length kn) ∧ w'.cell? ⟨g, off + zn, none⟩ = some (.pointer (some ⟨x.pb, 0, none⟩)) ∧ w'.cell? ⟨w.heap.size, 0, none⟩ = some (.int .i64 k)) (go_keep) (first
            | (go_at_call 60; refine (TK.out _ ?_).mono ?_; (repeat (first | exact HK2.out | refine Keep.alloc ?_ _ | refine Keep.drew ?_ | refine Keep.drewN ?_ _ | refine Keep.setCell ?_ (.inr (by first | omega | (simp; omega) | (simp; done))) _)); rintro e w3 ⟨rfl, hbd3, hk3⟩; have k3 : Keep [x.bf, x.bt] wr w3 := (by refine Keep.thenW ?_ hk3; (repeat (first | exact HK2.out | refine Keep.alloc ?_ _ | refine Keep.drew ?_ | refine Keep.drewN ?_ _ | refine Keep.setCell ?_ (.inr (by first | omega | (simp; omega) | (simp; done))) _))); have BD3 := Lib.hid hbd3; have y1 := cz.out w3 k3; have y2 := cr.out w3 k3; have y3 := cp.out w3 k3; (first | (have PN := ((LocN.mk_ w2 [.int .i64 0, .int .i64 0] 39 rfl).drewL).keep hk3 NB.out; have n0 := PN.c 0 _ rfl; have n1 := PN.c 1 _ rfl; have nf0 := PN.f 0 (by simp); have nf1 := PN.f 1 (by simp); have nl := PN.lt; clear PN) | skip); have M8 := c8.out w3 k3; have m0 := M8.c 0 _ rfl; have m1 := M8.c 1 _ rfl; have m2 := M8.c 2 _ rfl; have f0 := M8.f 0 (by simp); have f1 := M8.f 1 (by simp); have f2 := M8.f 2 (by simp); have ml8 := M8.lt; have HM8 := Lib.hid M8; clear M8 hbd3))
          · have k03 : Keep [x.bf, x.bt] w w3 := (Keep.of KR).then k3
            have z03 := k03.size
            go_wp2
            have LF := (HM8.out.store3 (.int .i64 zn) (.int .i64 b1) (.int .i64 k)).past (.cells #[.int .i64 b1, .int .i64 k] 39)
            have e0 := LF.c 0 _ rfl; have e1 := LF.c 1 _ rfl; have e2 := LF.c 2 _ rfl
            refine bodyPost_ret (v := .tuple #[plV (zn, b1, k), .nilIface]) (by simp [e0, e1, e2, results, Tryz.results16, go_sem, plV]) rfl ?_
            refine zhit (c1 := w.heap.size + 1) (c2 := w2.heap.size) (TT.out) HH.out HX.out HIT.out BD3.out k03 (by repeat (first | exact k03 | refine Keep.alloc ?_ _ | refine Keep.drew ?_ | refine Keep.drewN ?_ _ | refine Keep.setCell ?_ (.inr (by first | omega | (simp; omega) | (simp; done))) _)) ?_ (by omega) (by omega)
            refine Keep.trans (S' := [w.heap.size + 1, w2.heap.size]) (Keep.refl _ _) ?_ (fun s hs => .inl hs)
            repeat (first | exact Keep.refl _ _ | refine Keep.alloc ?_ _ | refine Keep.setCell ?_ (.inl (by simp)) _)
          · have k03 : Keep [x.bf, x.bt] w w3 := (Keep.of KR).then k3
            have z03 := k03.size
            go_wp2
            have LF := ((HM8.out.far ne4 0 (.int .i64 b1)).far ne4 1 (.int .i64 k)).store3 (.int .i64 zn) (.int .i64 b1) (.int .i64 k)
            have e0 := LF.c 0 _ rfl; have e1 := LF.c 1 _ rfl; have e2 := LF.c 2 _ rfl
            refine bodyPost_ret (v := .tuple #[plV (zn, b1, k), .nilIface]) (by simp [e0, e1, e2, results, Tryz.results16, go_sem, plV]) rfl ?_
            refine zhit (c1 := w.heap.size + 1) (c2 := w2.heap.size) (TT.out) HH.out HX.out HIT.out BD3.out k03 (by repeat (first | exact k03 | refine Keep.alloc ?_ _ | refine Keep.drew ?_ | refine Keep.drewN ?_ _ | refine Keep.setCell ?_ (.inr (by first | omega | (simp; omega) | (simp; done))) _)) ?_ (by omega) (by omega)
            refine Keep.trans (S' := [w.heap.size + 1, w2.heap.size]) (Keep.refl _ _) ?_ (fun s hs => .inl hs)
            repeat (first | exact Keep.refl _ _ | refine Keep.alloc ?_ _ | refine Keep.setCell ?_ (.inl (by simp)) _)
    · have et : t = D.length := by omega
      subst et
      have hp : pickZ mn k u L D = none := find_no (fun z hz => NOK.out z (by rw [List.take_length]; exact hz))
      have TT := Lib.hid (TNO.out hp)
      clear hp NOK
      obtain ⟨wo, rfl⟩ : ∃ wo : World, wo = wr := ⟨_, rfl⟩
      have q5 := (HZ.out.go hbel).c 5 _ rfl
      have hmf : ∀ (fn : Fn) (first cap : Array Value) (w : World), (Instr.makeFunc fn first cap).run Tryz.prog w = .ok (.func fn first cap) w := fun _ _ _ _ => rfl
      have pzl : pz < wo.heap.size := by omega
      go_wp2_with fail
      go_loopw [75] (fun iv wr => ∃ t : Nat, t ≤ L.length ∧ iv = .int .i64 t ∧ Hid (∀ y ∈ L.take t, someN k y = false) ∧ Below wo.heap.size wo wr) (fun iv _ => L.length - (intOf iv).toNat)
      case atStart => exact ⟨0, Nat.zero_le _, by go_num, (show ∀ z ∈ L.take 0, someN k z = false from by simp), Below.refl _ _⟩
      case round =>
        obtain ⟨t, ht, rfl, NOS, hbl2⟩ := hrel
        have zr2 := hbl2.size
        have KR2 : Below w.heap.size w wr := KR.trans (hbl2.mono KR.size)
        have M8 := Lib.hid ((HM.out.go hbel).go hbl2)
        by_cases hlt : t < L.length
        · obtain ⟨y, hy⟩ : ∃ y, L[t]? = some y := ⟨L[t], List.getElem?_eq_getElem hlt⟩
          have hzone := HH.out.below KR2
          have hbud := (hzone.b.bud y (List.mem_of_getElem? hy)).1
          have FR := Lib.hid (free_ok y.pb y.n y.bf y.bt y.F y.T wr hbud)
          have r0 := (hbl2.cell (p := ⟨g, off + t, none⟩) (show g < wo.heap.size by omega)).trans ((hbel.cell (p := ⟨g, off + t, none⟩) gl).trans (HC.out t y hy))
          have gr : g < wr.heap.size := by omega
          have HY := Lib.hid hy
          have PP := Lib.hid ((HP.out.go hbel).go hbl2)
          clear hzone hbud hy
          go_wp2_with fail
          refine FR.out.mono ?_
          rintro e w3 ⟨vF, rfl, hown⟩
          have hb3 := hown.2
          have z3 := hb3.size
          have hrow : RowT 0 w3 vF y.F := hown.rowT.mono (Nat.zero_le _)
          have CF := Lib.hid (ordGe_has vF y.F k w.heap.size w3 hrow ((PP.out.go hb3).c 0 _ rfl) (PP.out.go hb3).lt)
          have es : y.F.any (ordGe k) = someN k y := rfl
          rw [es] at CF
          have M3 := Lib.hid (M8.out.go hb3)
          clear FR r0 hrow es hown PP
          cases hs : someN k y with
          | false =>
            rw [hs] at CF
            have NOS2 := Lib.hid (take_snoc NOS.out HY.out hs)
            clear hs
            go_wp2_with fail
            refine CF.out.mono ?_
            rintro e w4 ⟨rfl, hb4⟩
            go_wp2
            go_roundw
            case rel => exact ⟨t + 1, by omega, by go_num, NOS2, hbl2.trans ((hb3.mono zr2).trans (hb4.mono (by omega)))⟩
            case measure => simp [intOf]; omega
          | true =>
            rw [hs] at CF
            have hlow : lowZ k L = 7 := by unfold lowZ; rw [if_pos (List.any_eq_true.2 ⟨y, List.mem_of_getElem? HY.out, hs⟩)]
            clear hs
            go_wp2_with fail
            refine CF.out.mono ?_
            rintro e w4 ⟨rfl, hb4⟩
            have z4 := hb4.size
            have K4 : Below w.heap.size w w4 := KR2.trans ((hb3.mono KR2.size).trans (hb4.mono (by have := KR2.size; omega)))
            have E4 := hE.go K4
            have c7 := E4.c7
            have l7 := hE.l7
            have ne7 : ¬ (w.heap.size + 1 = 0) := by omega
            have ne7' : ¬ (0 = w.heap.size + 1) := by omega
            have M4 := M3.out.go hb4
            have m0 := M4.c 0 _ rfl; have m1 := M4.c 1 _ rfl; have m2 := M4.c 2 _ rfl; have f0 := M4.f 0 (by simp); have f1 := M4.f 1 (by simp); have f2 := M4.f 2 (by simp); have ml8 := M4.lt
            have LF := Lib.hid (M4.store3 (.int .i64 0) (.int .i64 0) (.int .i64 0))
            have HLOW := Lib.hid hlow
            clear M4 E4 hlow CF
            go_wp2
            go_region
            all_goals go_wp2
            all_goals
              have e0 := LF.out.c 0 _ rfl; have e1 := LF.out.c 1 _ rfl; have e2 := LF.out.c 2 _ rfl
              refine bodyPost_ret (v := .tuple #[plV (0, 0, 0), errV ev 7]) (by simp [e0, e1, e2, results, Tryz.results16, go_sem, plV]) rfl ?_
              rw [TT.out, HLOW.out]
              refine ⟨rfl, HH.out.below (show Below w.heap.size w _ from ?_), Keep.of ?_⟩
              all_goals (exact Keep.belowN (by repeat (first | exact Keep.of K4 | refine Keep.alloc ?_ _ | refine Keep.drew ?_ | refine Keep.drewN ?_ _ | refine Keep.setCell ?_ (.inr (by first | omega | (simp; omega) | (simp; done))) _)))
        · have et : t = L.length := by omega
          subst et
          have hlow : lowZ k L = 5 := by
            unfold lowZ
            rw [if_neg]
            intro q
            obtain ⟨y, hy, hs⟩ := List.any_eq_true.1 q
            rw [NOS.out y (by rw [List.take_length]; exact hy)] at hs
            cases hs
          have E4 := (hE.go KR2).d
          have c7 := E4.c5
          have l7 := hE.d.l5
          have ne7 : ¬ (w.heap.size + 1 = 1) := by omega
          have ne7' : ¬ (1 = w.heap.size + 1) := by omega
          have M4 := M8.out
          have m0 := M4.c 0 _ rfl; have m1 := M4.c 1 _ rfl; have m2 := M4.c 2 _ rfl; have f0 := M4.f 0 (by simp); have f1 := M4.f 1 (by simp); have f2 := M4.f 2 (by simp); have ml8 := M4.lt
          have LF := Lib.hid (M4.store3 (.int .i64 0) (.int .i64 0) (.int .i64 0))
          have HLOW := Lib.hid hlow
          clear M4 E4 hlow
          go_wp2
          go_region
          all_goals go_wp2
          all_goals
            have e0 := LF.out.c 0 _ rfl; have e1 := LF.out.c 1 _ rfl; have e2 := LF.out.c 2 _ rfl
            refine bodyPost_ret (v := .tuple #[plV (0, 0, 0), errV ev 5]) (by simp [e0, e1, e2, results, Tryz.results16, go_sem, plV]) rfl ?_
            rw [TT.out, HLOW.out]
            refine ⟨rfl, HH.out.below (show Below w.heap.size w _ from ?_), Keep.of ?_⟩
            all_goals (exact Keep.belowN (by repeat (first | exact Keep.of KR2 | refine Keep.alloc ?_ _ | refine Keep.drew ?_ | refine Keep.drewN ?_ _ | refine Keep.setCell ?_ (.inr (by first | omega | (simp; omega) | (simp; done))) _)))

theorem ztake_any {B : Nat} {ev : Nat → Addr} (pz : Nat) (mn lw hi : Int) (O : List (List Int)) (L : List Nd) (v k : Int) (u : Bool) (w : World) (hE : ErrZ B ev w) (h : ZoneB B w pz mn lw hi O L) (hL : 0 < L.length) :
    Calls Tryz.prog 16 #[.pointer (some ⟨pz, 0, none⟩), .int .i64 v, .int .i64 k, .bool u] w (TakePost B ev pz mn lw hi O L w (takeZ mn O L v k u)) := by
  by_cases hv : v < 0 ∨ (L.length : Int) ≤ v
  · refine (ztake_node pz mn lw hi O L v k u w hE h hL hv).mono fun e w' ⟨h1, h2⟩ => ?_
    rw [takeZ_bad (by omega)]
    exact ⟨h1, h.below h2, Keep.of h2⟩
  · obtain ⟨n, rfl⟩ : ∃ n : Nat, v = n := ⟨v.toNat, by omega⟩
    by_cases hk : k < 0 ∨ 6 < k
    · refine (ztake_order pz mn lw hi O L n k u w hE h (by omega) hk).mono fun e w' ⟨h1, h2⟩ => ?_
      rw [takeZ_bad (by omega)]
      exact ⟨h1, h.below h2, Keep.of h2⟩
    · exact ztake_main pz mn lw hi O L n k u w hE h (by omega) (by omega) (by omega)
end Go.Proofs.YtcokmiidgdmdlaaGreatDoor

namespace Go.Proofs.YtcokmiidgdmdlaaGreatDoor
open Go.RowKit Go.Maps
set_option linter.unusedSimpArgs false
set_option linter.unusedVariables false

/-- what giving back comes to -/
def GivePost (B : Nat) (ev : Nat → Addr) (pz : Nat) (mn lw hi : Int) (O : List (List Int)) (L : List Nd) (w : World) (r : List Nd × Nat) (e : Ending) (w' : World) : Prop :=
  e = .returned (errV ev r.2) ∧ ZoneB B w' pz mn lw hi O r.1 ∧ Keep (ys L) w w'
end Go.Proofs.YtcokmiidgdmdlaaGreatDoor

namespace Go.Proofs.YtcokmiidgdmdlaaGreatDoor
open Go.RowKit Go.Maps
set_option linter.unusedSimpArgs false
set_option linter.unusedVariables false

/-- block pz is a zone; X: blocks that are written, the zone's own ones among them -/
structure ZoneX (X : List Nat) (B : Nat) (w : World) (pz : Nat) (mn lw hi : Int) (O : List (List Int)) (L : List Nd) : Prop where
  z : ∃ qn kn qo ko, LocN w pz [.slice none 0 0, .slice none 0 0, .int .i64 mn, .int .i64 lw, .int .i64 hi, .slice qn L.length kn, .slice qo L.length ko] ∧ RowV X w (.slice qn L.length kn) (ptrs L) ∧ RowR X w (.slice qo L.length ko) O
  b : Buds B w L
  mem : ∀ y ∈ ys L, y ∈ X
  out : pz ∉ X
  outb : ∀ x ∈ L, x.pb ∉ X
  ord : OrdZ O L.length
  m0 : 0 ≤ mn ∧ mn ≤ lw ∧ lw ≤ hi ∧ hi ≤ 9223372036854775807
theorem RowR.sub {X Y : List Nat} {w : World} {v : Value} {N : List (List Int)} (h : RowR Y w v N) (hX : ∀ x ∈ X, x ∈ Y) : RowR X w v N := by
  obtain ⟨us, h1, h2, h3⟩ := h
  exact ⟨us, h1, h2.sub hX, fun j u xs hu hx => (h3 j u xs hu hx).sub hX⟩
section
variable {X Y S : List Nat} {B : Nat} {w w' : World} {pz : Nat} {mn lw hi : Int} {O : List (List Int)} {L L' : List Nd}
theorem ZoneX.toB (h : ZoneX X B w pz mn lw hi O L) : ZoneB B w pz mn lw hi O L := by
  obtain ⟨qn, kn, qo, ko, h1, h2, h3⟩ := h.z
  exact ⟨⟨qn, kn, qo, ko, h1, h2.sub h.mem, h3.sub h.mem⟩, h.b, fun q => h.out (h.mem _ q), h.ord, h.m0⟩
theorem ZoneB.toX (h : ZoneB B w pz mn lw hi O L) : ZoneX (ys L) B w pz mn lw hi O L := ⟨h.z, h.b, fun _ q => q, h.out, h.b.out, h.ord, h.m0⟩
theorem ZoneX.keep (h : ZoneX X B w pz mn lw hi O L) (k : Keep S w w') (hs : ∀ s ∈ S, (s ∈ X ∧ s ∉ ys L) ∨ w.heap.size ≤ s) : ZoneX X B w' pz mn lw hi O L := by
  obtain ⟨qn, kn, qo, ko, h1, h2, h3⟩ := h.z
  have hX : ∀ s ∈ S, s ∈ X ∨ w.heap.size ≤ s := fun s q => (hs s q).imp And.left id
  refine ⟨⟨qn, kn, qo, ko, h1.keep k fun q => ?_, h2.keep k hX, h3.keep k hX⟩, h.b.keep k fun x hx => ⟨fun q => ?_, fun q => ?_, fun q => ?_⟩, h.mem, h.out, h.outb, h.ord, h.m0⟩
  · rcases hX _ q with r | r
    · exact h.out r
    · have := h1.lt; omega
  · rcases hX _ q with r | r
    · exact h.outb x hx r
    · have := (h.b.bud x hx).1.ltp; omega
  · rcases hs _ q with r | r
    · exact r.2 (ys_mem.2 ⟨x, hx, .inl rfl⟩)
    · have := (h.b.bud x hx).1.ltf; omega
  · rcases hs _ q with r | r
    · exact r.2 (ys_mem.2 ⟨x, hx, .inr rfl⟩)
    · have := (h.b.bud x hx).1.ltt; omega
theorem ZoneX.below (h : ZoneX X B w pz mn lw hi O L) (k : Below w.heap.size w w') : ZoneX X B w' pz mn lw hi O L := h.keep (Keep.of (S := []) k) (fun s q => by cases q)
theorem ZoneX.more (h : ZoneX X B w pz mn lw hi O L) (hX : ∀ x ∈ X, x ∈ Y) (hY : ∀ y ∈ Y, y ∈ X ∨ w.heap.size ≤ y) : ZoneX Y B w pz mn lw hi O L := by
  obtain ⟨qn, kn, qo, ko, h1, h2, h3⟩ := h.z
  refine ⟨⟨qn, kn, qo, ko, h1, h2.more hY, h3.more hY⟩, h.b, fun y hy => hX y (h.mem y hy), fun q => ?_, fun x hx q => ?_, h.ord, h.m0⟩
  · rcases hY _ q with r | r
    · exact h.out r
    · have := h1.lt; omega
  · rcases hY _ q with r | r
    · exact h.outb x hx r
    · have := (h.b.bud x hx).1.ltp; omega
theorem ZoneX.after (h : ZoneX X B w pz mn lw hi O L) (k : Keep (ys L) w w') (hb : ZoneB B w' pz mn lw hi O L') (hs : SameZ L L') : ZoneX X B w' pz mn lw hi O L' := by
  obtain ⟨qn, kn, qo, ko, h1, h2, h3⟩ := h.z
  have ep : ptrs L' = ptrs L := hs.map (fun x => Value.pointer (some ⟨x.pb, 0, none⟩)) fun x y q => by rw [q.pb]
  have el : L'.length = L.length := hs.1.symm
  refine ⟨⟨qn, kn, qo, ko, by rw [el]; exact h1.keep k (fun q => h.out (h.mem _ q)), by rw [el, ep]; exact h2.keep k (fun s q => .inl (h.mem s q)), by rw [el]; exact h3.keep k (fun s q => .inl (h.mem s q))⟩, hb.b, by rw [hs.ys]; exact h.mem, h.out, fun y hy => ?_, hb.ord, h.m0⟩
  obtain ⟨i, hi⟩ := List.getElem?_of_mem hy
  have hl := (List.getElem?_eq_some_iff.1 hi).1
  obtain ⟨x, hx⟩ : ∃ x, L[i]? = some x := ⟨L[i]'(by omega), List.getElem?_eq_getElem _⟩
  rw [(hs.2 i x y hx hi).pb]
  exact h.outb x (List.mem_of_getElem? hx)
end
end Go.Proofs.YtcokmiidgdmdlaaGreatDoor

namespace Go.Proofs.YtcokmiidgdmdlaaGreatDoor
open Go.RowKit Go.Maps
set_option linter.unusedSimpArgs false
set_option linter.unusedVariables false

def bools (T : List Bool) : List Value := T.map Value.bool
theorem bools_length (T : List Bool) : (bools T).length = T.length := by simp [bools]
theorem bools_get {T : List Bool} {j : Nat} {b : Bool} (h : T[j]? = some b) : (bools T)[j]? = some (.bool b) := by simp [bools, h]
theorem bools_set (T : List Bool) (k : Nat) (b : Bool) : bools (T.set k b) = (bools T).set k (.bool b) := by simp [bools, List.map_set]
/-- slabs lie behind pointers: a slab's block, and that of its objects -/
abbrev SA := List (Nat × Nat)
def sptrs (A : SA) : List Value := A.map fun p => .pointer (some ⟨p.1, 0, none⟩)
theorem sptrs_length (A : SA) : (sptrs A).length = A.length := by simp [sptrs]
theorem sptrs_get {A : SA} {j : Nat} {p : Nat × Nat} (h : A[j]? = some p) : (sptrs A)[j]? = some (.pointer (some ⟨p.1, 0, none⟩)) := by simp [sptrs, h]
theorem sptrs_one (A : SA) : ∀ u ∈ sptrs A, u.oneCell' = true := by
  intro u hu
  obtain ⟨p, _, rfl⟩ := List.mem_map.1 hu
  rfl
theorem elSlab : El 147 160 (.pointer none) 8 := ⟨Tryz.underlying147, by kernel_rfl, rfl, by omega⟩

/-- a slab's five cells -/
def slabCells (s : Sl) (gt : Nat) : List Value := [.int .i64 s.nd, .int .i64 s.pg, .int .i64 0, .slice (some ⟨gt, 0, none⟩) s.T.length s.T.length, .int .i64 (manyS s)]
/-- a slab in memory -/
def SlabB (w : World) (p : Nat × Nat) (s : Sl) : Prop := LocN w p.1 (slabCells s p.2) ∧ LocN w p.2 (bools s.T)
/-- the blocks of slabs -/
def ay (A : SA) : List Nat := A.flatMap fun p => [p.1, p.2]
theorem ay_mem {A : SA} {y : Nat} : y ∈ ay A ↔ ∃ p ∈ A, y = p.1 ∨ y = p.2 := by simp [ay]
/-- the blocks that a cache writes: its own, its slice's, its slabs' -/
def cay (pc : Nat) (v : Value) (A : SA) : List Nat := pc :: (ownX v ++ ay A)
/-- block pc is a cache: of zone pz, of objects of e bytes -/
structure CacB (X : List Nat) (B : Nat) (w : World) (pc pz e : Nat) (v : Value) (A : SA) (C : List Sl) : Prop where
  c : LocN w pc [.pointer (some ⟨pz, 0, none⟩), .int .i64 e, v]
  row : w.ownsRow B 160 1 v C.length (sptrs A)
  len : A.length = C.length
  sl : ∀ (i : Nat) (p : Nat × Nat) (s : Sl), A[i]? = some p → C[i]? = some s → SlabB w p s
  mem : ∀ y ∈ cay pc v A, y ∈ X
  nd : (cay pc v A).Nodup
  lim : ∀ y ∈ cay pc v A, B ≤ y ∧ y < w.heap.size
section
variable {X Y S : List Nat} {B : Nat} {w w' : World} {pc pz e : Nat} {v : Value} {A : SA} {C : List Sl}
theorem SlabB.keep {p : Nat × Nat} {s : Sl} (h : SlabB w p s) (k : Keep S w w') (h1 : p.1 ∉ S) (h2 : p.2 ∉ S) : SlabB w' p s := ⟨h.1.keep k h1, h.2.keep k h2⟩
theorem CacB.keep (h : CacB X B w pc pz e v A C) (k : Keep S w w') (hs : ∀ s ∈ S, s ∉ cay pc v A) : CacB X B w' pc pz e v A C :=
  ⟨h.c.keep k (fun q => hs _ q (by simp [cay])), own_keep h.row k (fun x hx q => hs x hx (by simp [cay, q])), h.len, fun i p s hp hq => (h.sl i p s hp hq).keep k (fun q => hs _ q (by
    unfold cay; exact List.mem_cons_of_mem _ (List.mem_append_right _ (ay_mem.2 ⟨p, List.mem_of_getElem? hp, .inl rfl⟩)))) (fun q => hs _ q (by
    unfold cay; exact List.mem_cons_of_mem _ (List.mem_append_right _ (ay_mem.2 ⟨p, List.mem_of_getElem? hp, .inr rfl⟩)))), h.mem, h.nd, fun y hy => ⟨(h.lim y hy).1, Nat.lt_of_lt_of_le (h.lim y hy).2 k.size⟩⟩
theorem CacB.below (h : CacB X B w pc pz e v A C) (k : Below w.heap.size w w') : CacB X B w' pc pz e v A C := h.keep (Keep.of (S := []) k) (fun s q => by cases q)
theorem CacB.more (h : CacB X B w pc pz e v A C) (hX : ∀ x ∈ X, x ∈ Y) : CacB Y B w pc pz e v A C := ⟨h.c, h.row, h.len, h.sl, fun y hy => hX y (h.mem y hy), h.nd, h.lim⟩
theorem CacB.at (h : CacB X B w pc pz e v A C) {i : Nat} {s : Sl} (hs : C[i]? = some s) : ∃ p, A[i]? = some p ∧ SlabB w p s ∧ p.1 ∈ cay pc v A ∧ p.2 ∈ cay pc v A := by
  have hl := (List.getElem?_eq_some_iff.1 hs).1
  obtain ⟨p, hp⟩ : ∃ p, A[i]? = some p := ⟨A[i]'(by rw [h.len]; exact hl), List.getElem?_eq_getElem _⟩
  have hm := List.mem_of_getElem? hp
  exact ⟨p, hp, h.sl i p s hp hs, List.mem_cons_of_mem _ (List.mem_append_right _ (ay_mem.2 ⟨p, hm, .inl rfl⟩)), List.mem_cons_of_mem _ (List.mem_append_right _ (ay_mem.2 ⟨p, hm, .inr rfl⟩))⟩
theorem CacB.form (h : CacB X B w pc pz e v A C) : ∃ q k, v = .slice q C.length k ∧ C.length ≤ k ∧ k ≤ maxLen ∧ ∀ j p, A[j]? = some p → ∃ g, q = some ⟨g, 0, none⟩ ∧ g < w.heap.size ∧ w.cell? ⟨g, j, none⟩ = some (.pointer (some ⟨p.1, 0, none⟩)) := by
  have ho := h.row
  have hln := h.len
  rcases h.row.2 with ⟨rfl, h3⟩ | ⟨g, cap, cur, rfl, hg, hh, hcap, hmax, _⟩
  · refine ⟨none, 0, by rw [h3], by omega, by unfold maxLen; omega, fun j p hj => ?_⟩
    have := (List.getElem?_eq_some_iff.1 hj).1
    omega
  · refine ⟨some ⟨g, 0, none⟩, cap, rfl, hcap, hmax, fun j p hj => ⟨g, rfl, (ho.lt g rfl).2, ?_⟩⟩
    have hlt := (List.getElem?_eq_some_iff.1 hj).1
    rw [ho.cellAt j (by omega)]
    exact sptrs_get hj
theorem nodup_ay {A : SA} (h : (ay A).Nodup) {i j : Nat} {p r : Nat × Nat} (hp : A[i]? = some p) (hr : A[j]? = some r) (hne : i ≠ j) : p.1 ≠ r.1 ∧ p.1 ≠ r.2 ∧ p.2 ≠ r.1 ∧ p.2 ≠ r.2 := by
  induction A generalizing i j with
  | nil => simp at hp
  | cons a A ih =>
    simp only [ay, List.flatMap_cons] at h
    obtain ⟨n1, n2, n3⟩ := List.nodup_append.1 h
    cases i with
    | zero =>
      cases j with
      | zero => omega
      | succ j =>
        simp at hp hr
        subst hp
        have hm := List.mem_of_getElem? hr
        have m1 : r.1 ∈ A.flatMap fun p => [p.1, p.2] := ay_mem.2 ⟨r, hm, .inl rfl⟩
        have m2 : r.2 ∈ A.flatMap fun p => [p.1, p.2] := ay_mem.2 ⟨r, hm, .inr rfl⟩
        exact ⟨n3 _ (by simp) _ m1, n3 _ (by simp) _ m2, n3 _ (by simp) _ m1, n3 _ (by simp) _ m2⟩
    | succ i =>
      cases j with
      | zero =>
        simp at hp hr
        subst hr
        have hm := List.mem_of_getElem? hp
        have m1 : p.1 ∈ A.flatMap fun p => [p.1, p.2] := ay_mem.2 ⟨p, hm, .inl rfl⟩
        have m2 : p.2 ∈ A.flatMap fun p => [p.1, p.2] := ay_mem.2 ⟨p, hm, .inr rfl⟩
        exact ⟨fun q => n3 _ (by simp) _ m1 q.symm, fun q => n3 _ (by simp) _ m1 q.symm, fun q => n3 _ (by simp) _ m2 q.symm, fun q => n3 _ (by simp) _ m2 q.symm⟩
      | succ j => exact ih n2 (by simpa using hp) (by simpa using hr) (by omega)
theorem nodup_pair {A : SA} (h : (ay A).Nodup) {i : Nat} {p : Nat × Nat} (hp : A[i]? = some p) : p.1 ≠ p.2 := by
  induction A generalizing i with
  | nil => simp at hp
  | cons a A ih =>
    simp only [ay, List.flatMap_cons] at h
    obtain ⟨n1, n2, _⟩ := List.nodup_append.1 h
    cases i with
    | zero => simp at hp; subst hp; simpa using n1
    | succ i => exact ih n2 (by simpa using hp)
theorem CacB.nday (h : CacB X B w pc pz e v A C) : (ay A).Nodup := (List.nodup_append.1 (List.nodup_cons.1 h.nd).2).2.1
theorem CacB.use (h : CacB X B w pc pz e v A C) {i : Nat} {p : Nat × Nat} (hp : A[i]? = some p) {s : Sl} (hs : SlabB w' p s) (k : Keep [p.1, p.2] w w') : CacB X B w' pc pz e v A (C.set i s) := by
  have hm := List.mem_of_getElem? hp
  have a1 : p.1 ∈ ay A := ay_mem.2 ⟨p, hm, .inl rfl⟩
  have a2 : p.2 ∈ ay A := ay_mem.2 ⟨p, hm, .inr rfl⟩
  obtain ⟨n0, n1⟩ := List.nodup_cons.1 h.nd
  obtain ⟨_, n2, n3⟩ := List.nodup_append.1 n1
  have npc : pc ∉ [p.1, p.2] := fun q => by
    simp at q
    rcases q with q | q
    · exact n0 (List.mem_append_right _ (q ▸ a1))
    · exact n0 (List.mem_append_right _ (q ▸ a2))
  have ho : w'.ownsRow B 160 1 v C.length (sptrs A) := own_keep h.row k fun x hx q => by
    simp at hx
    rcases hx with rfl | rfl
    · exact n3 _ q _ a1 rfl
    · exact n3 _ q _ a2 rfl
  refine ⟨h.c.keep k npc, by rw [List.length_set]; exact ho, by simpa using h.len, fun j r z hr hz => ?_, h.mem, h.nd, fun y hy => ⟨(h.lim y hy).1, Nat.lt_of_lt_of_le (h.lim y hy).2 k.size⟩⟩
  by_cases e : i = j
  · subst e
    rw [hp] at hr; obtain rfl := Option.some.inj hr
    rw [List.getElem?_set_self (by rw [← h.len]; exact (List.getElem?_eq_some_iff.1 hp).1)] at hz
    obtain rfl := Option.some.inj hz
    exact hs
  · rw [List.getElem?_set_ne e] at hz
    obtain ⟨q1, q2, q3, q4⟩ := nodup_ay n2 hr hp (by omega)
    exact (h.sl j r z hr hz).keep k (by simp; exact ⟨q1, q2⟩) (by simp; exact ⟨q3, q4⟩)
end
end Go.Proofs.YtcokmiidgdmdlaaGreatDoor

namespace Go.Proofs.YtcokmiidgdmdlaaGreatDoor
open Go.RowKit Go.Maps
set_option linter.unusedSimpArgs false
set_option linter.unusedVariables false

/-- an object, as a value -/
def obV (o : Ob) : Value := .agg #[.int .i64 o.1, .int .i64 o.2]
/-- block pc is a cache on the zone pz; X: blocks that are written, theirs among them -/
structure CS (B : Nat) (w : World) (pc pz : Nat) (mn lw hi : Int) (O : List (List Int)) (e : Nat) (X : List Nat) (v : Value) (A : SA) (c : Ca) : Prop where
  z : ZoneX X B w pz mn lw hi O c.L
  ch : CacB X B w pc pz e v A c.C
  ne : ∀ y ∈ cay pc v A, y ∉ ys c.L
  l0 : 0 < c.L.length
section
variable {X Y S : List Nat} {B : Nat} {w w' w1 : World} {pc pz e : Nat} {mn lw hi : Int} {O : List (List Int)} {v v' : Value} {A : SA} {c : Ca} {L' : List Nd}
theorem CS.below (h : CS B w pc pz mn lw hi O e X v A c) (k : Below w.heap.size w w') : CS B w' pc pz mn lw hi O e X v A c := ⟨h.z.below k, h.ch.below k, h.ne, h.l0⟩
theorem CS.keep (h : CS B w pc pz mn lw hi O e X v A c) (k : Keep S w w') (hs : ∀ s ∈ S, s ∉ cay pc v A ∧ ((s ∈ X ∧ s ∉ ys c.L) ∨ w.heap.size ≤ s)) : CS B w' pc pz mn lw hi O e X v A c :=
  ⟨h.z.keep k (fun s q => (hs s q).2), h.ch.keep k (fun s q => (hs s q).1), h.ne, h.l0⟩
theorem CS.more (h : CS B w pc pz mn lw hi O e X v A c) (hX : ∀ x ∈ X, x ∈ Y) (hY : ∀ y ∈ Y, y ∈ X ∨ w.heap.size ≤ y) : CS B w pc pz mn lw hi O e Y v A c := ⟨h.z.more hX hY, h.ch.more hX, h.ne, h.l0⟩
theorem CS.zone (h : CS B w pc pz mn lw hi O e X v A c) (k : Keep (ys c.L) w w') (hb : ZoneB B w' pz mn lw hi O L') (hs : SameZ c.L L') : CS B w' pc pz mn lw hi O e X v A ⟨L', c.C⟩ :=
  ⟨h.z.after k hb hs, h.ch.keep k (fun s q r => h.ne s r q), by show ∀ y ∈ cay pc v A, y ∉ ys L'; rw [hs.ys]; exact h.ne, by show 0 < L'.length; rw [← hs.1]; exact h.l0⟩
theorem CS.slab (h : CS B w pc pz mn lw hi O e X v A c) {i : Nat} {p : Nat × Nat} (hp : A[i]? = some p) : p.1 ∈ cay pc v A ∧ p.2 ∈ cay pc v A ∧ p.1 ≠ p.2 := by
  have hm := List.mem_of_getElem? hp
  exact ⟨List.mem_cons_of_mem _ (List.mem_append_right _ (ay_mem.2 ⟨p, hm, .inl rfl⟩)), List.mem_cons_of_mem _ (List.mem_append_right _ (ay_mem.2 ⟨p, hm, .inr rfl⟩)), nodup_pair h.ch.nday hp⟩
theorem CS.use (h : CS B w pc pz mn lw hi O e X v A c) {i : Nat} {p : Nat × Nat} (hp : A[i]? = some p) {s : Sl} (hs : SlabB w' p s) (k : Keep [p.1, p.2] w w') : CS B w' pc pz mn lw hi O e X v A ⟨c.L, c.C.set i s⟩ := by
  obtain ⟨m1, m2, _⟩ := h.slab hp
  refine ⟨h.z.keep k (fun x hx => .inl ?_), h.ch.use hp hs k, h.ne, h.l0⟩
  simp at hx
  rcases hx with rfl | rfl
  · exact ⟨h.ch.mem _ m1, h.ne _ m1⟩
  · exact ⟨h.ch.mem _ m2, h.ne _ m2⟩
theorem SlabB.put {p : Nat × Nat} {s : Sl} {k : Nat} (b : Bool) (h : SlabB w p s) (hne : p.1 ≠ p.2) (hk : k < s.T.length) :
    SlabB ((w.setCell ⟨p.2, k, none⟩ (.bool b)).setCell ⟨p.1, 4, none⟩ (.int .i64 (manyS (useS s k b)))) p (useS s k b) ∧ Keep [p.1, p.2] w ((w.setCell ⟨p.2, k, none⟩ (.bool b)).setCell ⟨p.1, 4, none⟩ (.int .i64 (manyS (useS s k b)))) := by
  refine ⟨⟨?_, ?_⟩, ((Keep.refl _ _).setCell (p := ⟨p.2, k, none⟩) (.inl (by simp)) _).setCell (p := ⟨p.1, 4, none⟩) (.inl (by simp)) _⟩
  · have h1 := (h.1.far (c := p.2) (fun q => hne q.symm) k (.bool b)).store 4 (.int .i64 (manyS (useS s k b))) (by simp [slabCells])
    have e : (slabCells s p.2).set 4 (.int .i64 (manyS (useS s k b))) = slabCells (useS s k b) p.2 := by simp [slabCells, useS]
    rwa [e] at h1
  · have h2 := (h.2.store k (.bool b) (by rw [bools_length]; exact hk)).far (c := p.1) hne 4 (.int .i64 (manyS (useS s k b)))
    rw [← bools_set] at h2
    exact h2
theorem get_ins {α : Type} {l : List α} {i : Nat} {x : α} (hi : i ≤ l.length) (j : Nat) : (l.take i ++ x :: l.drop i)[j]? = if j < i then l[j]? else if j = i then some x else l[j - 1]? := by
  have hl : (l.take i).length = i := by rw [List.length_take]; omega
  split
  · rename_i h
    rw [List.getElem?_append_left (by omega), List.getElem?_take, if_pos h]
  · split
    · rename_i h; subst h
      rw [List.getElem?_append_right (by omega), hl, Nat.sub_self]; rfl
    · rw [List.getElem?_append_right (by omega), hl]
      obtain ⟨d, hd⟩ : ∃ d, j - i = d + 1 := ⟨j - i - 1, by omega⟩
      rw [hd, List.getElem?_cons_succ, List.getElem?_drop]
      congr 1; omega
theorem sptrs_ins (A : SA) (i : Nat) (p : Nat × Nat) : sptrs (A.take i ++ p :: A.drop i) = (sptrs A).take i ++ .pointer (some ⟨p.1, 0, none⟩) :: (sptrs A).drop i := by simp [sptrs, List.map_take, List.map_drop]
theorem ay_ins (A : SA) (i : Nat) (p : Nat × Nat) : (ay (A.take i ++ p :: A.drop i)).Perm (p.1 :: p.2 :: ay A) := by
  have h : (A.take i ++ p :: A.drop i).Perm (p :: A) := by
    have := List.perm_middle (a := p) (l₁ := A.take i) (l₂ := A.drop i)
    rwa [List.take_append_drop] at this
  exact h.flatMap_right (fun p => [p.1, p.2])
theorem CacB.ins {C : List Sl} (h : CacB X B w pc pz e v A C) {p : Nat × Nat} {s : Sl} {i n : Nat} (hi : i ≤ C.length) (k : Keep (ownX v) w w1) (own : w1.ownsRow B 160 1 v' (C.length + 1) (sptrs (A.take i ++ p :: A.drop i))) (hw' : w' = w1.setCell ⟨pc, 2, none⟩ v') (hs : SlabB w p s)
    (n1 : p.1 ∉ cay pc v A) (n2 : p.2 ∉ cay pc v A) (n12 : p.1 ≠ p.2) (b1 : B ≤ p.1) (b2 : B ≤ p.2) (hv' : ∀ y ∈ ownX v', y ∈ ownX v ∨ w.heap.size ≤ y) :
    CacB (p.1 :: p.2 :: (ownX v' ++ X)) B w' pc pz e v' (A.take i ++ p :: A.drop i) (C.take i ++ s :: C.drop i) ∧ Keep (pc :: ownX v) w w' ∧ ∀ y ∈ cay pc v' (A.take i ++ p :: A.drop i), y ∈ cay pc v A ∨ y = p.1 ∨ y = p.2 ∨ w.heap.size ≤ y := by
  obtain ⟨n0, nn⟩ := List.nodup_cons.1 h.nd
  obtain ⟨no, na, nx⟩ := List.nodup_append.1 nn
  have hpv : pc ∉ ownX v := fun q => n0 (List.mem_append_left _ q)
  have hpa : pc ∉ ay A := fun q => n0 (List.mem_append_right _ q)
  have kk : Keep (pc :: ownX v) w w' := by rw [hw']; exact (k.mono (fun _ q => List.mem_cons_of_mem _ q)).setCell (p := ⟨pc, 2, none⟩) (.inl (by simp)) _
  have hpc := h.c.lt
  have hpv' : pc ∉ ownX v' := fun q => by
    rcases hv' _ q with r | r
    · exact hpv r
    · omega
  have key : ∀ y ∈ cay pc v' (A.take i ++ p :: A.drop i), y = pc ∨ y ∈ ownX v' ∨ y = p.1 ∨ y = p.2 ∨ y ∈ ay A := fun y hy => by
    rcases List.mem_cons.1 hy with q | q
    · exact .inl q
    · rcases List.mem_append.1 q with r | r
      · exact .inr (.inl r)
      · have := (ay_ins A i p).mem_iff.1 r
        simp at this
        rcases this with t | t | t
        · exact .inr (.inr (.inl t))
        · exact .inr (.inr (.inr (.inl t)))
        · exact .inr (.inr (.inr (.inr t)))
  have hal : ∀ y ∈ ay A, B ≤ y ∧ y < w.heap.size := fun y hy => h.lim y (List.mem_cons_of_mem _ (List.mem_append_right _ hy))
  have hvl : ∀ y ∈ ownX v', B ≤ y ∧ y < w'.heap.size := fun y hy => by
    have := ownX_ge own hy
    refine ⟨this.1, ?_⟩
    rw [hw']; simpa using this.2
  have e1 : (C.take i ++ s :: C.drop i).length = C.length + 1 := by simp; omega
  refine ⟨⟨?_, ?_, ?_, fun j r z hr hz => ?_, fun y hy => ?_, ?_, fun y hy => ?_⟩, kk, fun y hy => ?_⟩
  · rw [hw']
    have := (h.c.keep k hpv).store 2 v' (by simp)
    exact this
  · rw [e1, hw']
    exact own_keep own ((Keep.refl [pc] _).setCell (p := ⟨pc, 2, none⟩) (.inl (by simp)) _) (fun x hx q => by simp at hx; subst hx; exact hpv' q)
  · have := h.len
    simp; omega
  · rw [get_ins (by rw [h.len]; exact hi)] at hr
    rw [get_ins hi] at hz
    have old : ∀ j r z, A[j]? = some r → C[j]? = some z → SlabB w' r z := fun j r z hr hz => by
      have hm := List.mem_of_getElem? hr
      have a1 : r.1 ∈ ay A := ay_mem.2 ⟨r, hm, .inl rfl⟩
      have a2 : r.2 ∈ ay A := ay_mem.2 ⟨r, hm, .inr rfl⟩
      refine (h.sl j r z hr hz).keep kk (fun q => ?_) (fun q => ?_)
      · rcases List.mem_cons.1 q with t | t
        · exact hpa (t ▸ a1)
        · exact nx _ t _ a1 rfl
      · rcases List.mem_cons.1 q with t | t
        · exact hpa (t ▸ a2)
        · exact nx _ t _ a2 rfl
    split at hr
    · rename_i q
      rw [if_pos q] at hz
      exact old j r z hr hz
    · rename_i q
      rw [if_neg q] at hz
      split at hr
      · rename_i t
        rw [if_pos t] at hz
        obtain rfl := Option.some.inj hr
        obtain rfl := Option.some.inj hz
        refine hs.keep kk (fun q => ?_) (fun q => ?_)
        · rcases List.mem_cons.1 q with t | t
          · exact n1 (t ▸ List.mem_cons_self ..)
          · exact n1 (List.mem_cons_of_mem _ (List.mem_append_left _ t))
        · rcases List.mem_cons.1 q with t | t
          · exact n2 (t ▸ List.mem_cons_self ..)
          · exact n2 (List.mem_cons_of_mem _ (List.mem_append_left _ t))
      · rename_i t
        rw [if_neg t] at hz
        exact old _ r z hr hz
  · rcases key y hy with q | q | q | q | q
    · have := h.mem pc (List.mem_cons_self ..)
      subst q; simp [this]
    · simp [q]
    · simp [q]
    · simp [q]
    · have := h.mem y (List.mem_cons_of_mem _ (List.mem_append_right _ q))
      simp [this]
  · refine List.nodup_cons.2 ⟨fun q => ?_, List.nodup_append.2 ⟨?_, (ay_ins A i p).nodup_iff.2 ?_, fun a ha b hb hab => ?_⟩⟩
    · rcases List.mem_append.1 q with r | r
      · exact hpv' r
      · have := (ay_ins A i p).mem_iff.1 r
        simp at this
        rcases this with t | t | t
        · exact n1 (t ▸ List.mem_cons_self ..)
        · exact n2 (t ▸ List.mem_cons_self ..)
        · exact hpa t
    · unfold ownX; cases v'.ownBlock <;> simp
    · refine List.nodup_cons.2 ⟨fun q => ?_, List.nodup_cons.2 ⟨fun q => ?_, na⟩⟩
      · rcases List.mem_cons.1 q with t | t
        · exact n12 t
        · exact n1 (List.mem_cons_of_mem _ (List.mem_append_right _ t))
      · exact n2 (List.mem_cons_of_mem _ (List.mem_append_right _ q))
    · subst hab
      have hb' := (ay_ins A i p).mem_iff.1 hb
      have hsl : p.1 < w.heap.size ∧ p.2 < w.heap.size := ⟨hs.1.lt, hs.2.lt⟩
      rcases hv' a ha with r | r
      · simp at hb'
        rcases hb' with t | t | t
        · exact n1 (t ▸ List.mem_cons_of_mem _ (List.mem_append_left _ r))
        · exact n2 (t ▸ List.mem_cons_of_mem _ (List.mem_append_left _ r))
        · exact nx _ r _ t rfl
      · simp at hb'
        rcases hb' with t | t | t
        · omega
        · omega
        · have := hal _ t; omega
  · have hz : w.heap.size ≤ w'.heap.size := kk.size
    rcases key y hy with q | q | q | q | q
    · have := h.lim pc (List.mem_cons_self ..)
      subst q; exact ⟨this.1, by omega⟩
    · exact hvl y q
    · subst q; have := hs.1.lt; exact ⟨b1, by omega⟩
    · subst q; have := hs.2.lt; exact ⟨b2, by omega⟩
    · have := hal y q; exact ⟨this.1, by omega⟩
  · rcases key y hy with q | q | q | q | q
    · exact .inl (by subst q; exact List.mem_cons_self ..)
    · rcases hv' y q with r | r
      · exact .inl (List.mem_cons_of_mem _ (List.mem_append_left _ r))
      · exact .inr (.inr (.inr r))
    · exact .inr (.inl q)
    · exact .inr (.inr (.inl q))
    · exact .inl (List.mem_cons_of_mem _ (List.mem_append_right _ q))
end
end Go.Proofs.YtcokmiidgdmdlaaGreatDoor
