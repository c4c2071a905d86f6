/- Package zone: the order of nodes from one of them. -/
import Derived.Test.YtigginpcokfihaaGreatDoorZSort
import Derived.Test.YtigginpcokfihaaGreatDoorZOf
namespace Go.Proofs.YtigginpcokfihaaGreatDoor
open Go.RowKit
set_option linter.unusedSimpArgs false
set_option linter.unusedVariables false

theorem restN_snoc (i : Nat) : restN (i + 1) 0 = restN i 0 ++ [(i : Int)] := by
  unfold restN
  simp [List.range'_concat]
theorem own_loc {w : World} {B : Nat} {E : TypeId} {g n cap : Nat} {us : List Value} (h : w.ownsRow B E 1 (.slice (some ⟨g, 0, none⟩) n cap) n us) : LocN w g us := by
  have hl := h.1
  refine ⟨(h.lt g rfl).2, fun j u hj => ?_, fun j hj => h.frozenAt j⟩
  have := (List.getElem?_eq_some_iff.1 hj).1
  rw [h.cellAt j (by omega)]; exact hj
theorem loc_row {X : List Nat} {w : World} {g cap : Nat} {us : List Value} (h : LocN w g us) (hg : g ∉ X) (hc : us.length ≤ cap) (hm : cap ≤ maxLen) : RowV X w (.slice (some ⟨g, 0, none⟩) us.length cap) us :=
  ⟨_, cap, rfl, hc, hm, fun j u hj => ⟨g, 0, rfl, hg, h.lt, by rw [Nat.zero_add]; exact h.c j u hj⟩⟩
theorem own_form {w : World} {B : Nat} {E : TypeId} {s : Nat} {q : Option Addr} {n k : Nat} {us : List Value} (h : w.ownsRow B E s (.slice q n k) n us) (hn : 0 < n) : ∃ g, q = some ⟨g, 0, none⟩ ∧ B ≤ g ∧ n ≤ k ∧ k ≤ maxLen := by
  rcases h.2 with ⟨_, h3⟩ | ⟨g, cap, cur, e, hg, _, h4, h5, _⟩
  · omega
  · injection e with e1 e2 e3
    subst e3
    exact ⟨g, e1, hg, h4, h5⟩

set_option maxHeartbeats 1000000 in
theorem order_cfg {B : Nat} {ev : Nat → Addr} (X : List Nat) (vP vN : Value) (P : List Int) (N : List (List Int)) (mn lw hi node : Int) (w : World) (hE : ErrC B ev w) (h : Cfg X w vP vN P N) (c : Nat) (hc : cfgE P N mn lw hi = c + 1) :
    Calls Tryz.prog 14 #[.agg #[vP, vN, .int .i64 mn, .int .i64 lw, .int .i64 hi], .int .i64 node] w fun e w' => e = .returned (.tuple #[.slice none 0 0, errV ev (c + 1)]) ∧ Below w.heap.size w w' := by
  have hB := hE.size
  have hb0 : Below w.heap.size w ((w.alloc (.cells [vP, vN, .int .i64 mn, .int .i64 lw, .int .i64 hi].toArray 36)).alloc (.cells #[.int .i64 node] 3)) := (by repeat (first | exact Below.refl _ _ | refine Below.drew ?_ | refine below_drewN ?_ _ | refine Below.trans ?_ (Below.mono (by assumption) (by first | omega | (simp; omega) | (simp; done))) | refine Below.alloc ?_ (by first | omega | (simp; omega) | (simp; done)) _ | refine Below.setCell ?_ (by first | omega | (simp; omega) | (simp; done)) _))
  have CH := check_any X vP vN P N mn lw hi _ (hE.below (hb0.mono hB)) (h.below hb0)
  rw [hc] at CH
  obtain ⟨p, cap, rfl, _⟩ := h.p.int
  obtain ⟨q, k, rfl, _⟩ := h.n.form
  have CH' := Lib.hid CH
  have e1 : errV ev (c + 1) = .iface 199 (.pointer (some (ev (c + 1)))) := rfl
  rw [e1] at CH' ⊢
  clear CH h hc e1
  go_enter Tryz.func14, Tryz.ntmps14
  go_wp2_with fail
  refine CH'.out.mono ?_
  rintro e w1 ⟨rfl, hb1⟩
  go_wp2
  go_ret2
  exact ⟨rfl, hb0.trans (hb1.mono (by simp; omega))⟩

/-- what Order comes to -/
def OrdPost (X : List Nat) (l : List Int) (n : Nat) (w : World) (e : Ending) (w' : World) : Prop :=
  ∃ (g cap : Nat) (D : List Int), e = .returned (.tuple #[.slice (some ⟨g, 0, none⟩) n cap, .nilIface]) ∧ OrdTo l n D ∧ LocN w' g (ints D) ∧ w.heap.size ≤ g ∧ n ≤ cap ∧ cap ≤ maxLen ∧ Below w.heap.size w w'

set_option maxHeartbeats 4000000 in
set_option maxRecDepth 100000 in
theorem order_ok {B : Nat} {ev : Nat → Addr} (X : List Nat) (vP vN : Value) (P : List Int) (N : List (List Int)) (mn lw hi : Int) (v : Nat) (l : List Int) (w : World) (hE : ErrC B ev w) (h : Cfg X w vP vN P N) (hc : cfgE P N mn lw hi = 0) (hv : N[v]? = some l) (hl : l.length = P.length) (hN : N.length = P.length) (hp : P.length ≤ 4) :
    Calls Tryz.prog 14 #[.agg #[vP, vN, .int .i64 mn, .int .i64 lw, .int .i64 hi], .int .i64 v] w (OrdPost X l P.length w) := by
  have hB := hE.size
  have hvn : v < P.length := by rw [← hN]; exact (List.getElem?_eq_some_iff.1 hv).1
  obtain ⟨p, cap, rfl, hcp, hmx, _⟩ := h.p.int
  obtain ⟨q, k, rfl, hck, hkm, hcn⟩ := h.n.form
  have hcn := Lib.hid hcn
  obtain ⟨gN, oN, u, rfl, _, hgN, hcu, hu⟩ := hcn.out v l hv
  obtain ⟨pl, kl, rfl, hkl, hml, hcl⟩ := hu.int
  have hl0 := hcl 0 _ (List.getElem?_eq_getElem (by omega))
  obtain ⟨gl, ol, rfl, _, hgl, hd0⟩ := hl0
  clear hd0
  have hrow : Hid (∀ (j : Nat) (x : Int), l[j]? = some x → w.cell? ⟨gl, ol + j, none⟩ = some (.int .i64 x)) := fun j x hj => by
    obtain ⟨g2, o2, e, _, _, hc2⟩ := hcl j x hj
    injection e with e; injection e with e1 e2
    subst e1 e2
    exact hc2
  have L0 : LocN ((w.alloc (.cells [.slice p P.length cap, .slice (some ⟨gN, oN, none⟩) N.length k, .int .i64 mn, .int .i64 lw, .int .i64 hi].toArray 36)).alloc (.cells #[.int .i64 v] 3)) w.heap.size [.slice p P.length cap, .slice (some ⟨gN, oN, none⟩) N.length k, .int .i64 mn, .int .i64 lw, .int .i64 hi] := (LocN.new w [.slice p P.length cap, .slice (some ⟨gN, oN, none⟩) N.length k, .int .i64 mn, .int .i64 lw, .int .i64 hi] 36).go (w' := (w.alloc (.cells [.slice p P.length cap, .slice (some ⟨gN, oN, none⟩) N.length k, .int .i64 mn, .int .i64 lw, .int .i64 hi].toArray 36)).alloc (.cells #[.int .i64 v] 3)) (by repeat (first | exact Below.refl _ _ | refine Below.drew ?_ | refine below_drewN ?_ _ | refine Below.trans ?_ (Below.mono (by assumption) (by first | omega | (simp; omega) | (simp; done))) | refine Below.alloc ?_ (by first | omega | (simp; omega) | (simp; done)) _ | refine Below.setCell ?_ (by first | omega | (simp; omega) | (simp; done)) _))
  have L1 : LocN ((w.alloc (.cells [.slice p P.length cap, .slice (some ⟨gN, oN, none⟩) N.length k, .int .i64 mn, .int .i64 lw, .int .i64 hi].toArray 36)).alloc (.cells #[.int .i64 v] 3)) (w.heap.size + 1) [.int .i64 v] := by
    have := LocN.new (w.alloc (.cells [.slice p P.length cap, .slice (some ⟨gN, oN, none⟩) N.length k, .int .i64 mn, .int .i64 lw, .int .i64 hi].toArray 36)) [.int .i64 v] 3
    simpa using this
  have hb0 : Below w.heap.size w ((w.alloc (.cells [.slice p P.length cap, .slice (some ⟨gN, oN, none⟩) N.length k, .int .i64 mn, .int .i64 lw, .int .i64 hi].toArray 36)).alloc (.cells #[.int .i64 v] 3)) := (by repeat (first | exact Below.refl _ _ | refine Below.drew ?_ | refine below_drewN ?_ _ | refine Below.trans ?_ (Below.mono (by assumption) (by first | omega | (simp; omega) | (simp; done))) | refine Below.alloc ?_ (by first | omega | (simp; omega) | (simp; done)) _ | refine Below.setCell ?_ (by first | omega | (simp; omega) | (simp; done)) _))
  have CH := check_any X _ _ P N mn lw hi _ (hE.below (hb0.mono hB)) (h.below hb0)
  rw [hc, show errV ev 0 = Value.nilIface from rfl] at CH
  have CH' := Lib.hid CH
  have HL0 := Lib.hid L0; have HL1 := Lib.hid L1
  have HB0 := Lib.hid hb0
  have HLL := Lib.hid hl; have HNN := Lib.hid hN
  obtain ⟨n, hn⟩ : ∃ n, n = P.length := ⟨_, rfl⟩
  rw [hN] at HL0 HL1 HB0 CH' hck ⊢
  rw [← hn] at hp hvn HL0 HL1 HB0 hcp HLL HNN CH' hck ⊢
  have hmx' : n ≤ 4 := hp
  have hn1 : 1 ≤ n := by omega
  have HU := Lib.hid hcu
  unfold maxLen at hmx hkm hml
  clear CH h hc hn hb0 L0 L1 hcl hu hv hl hN hcu
  have v0 : decide ((v : Int) < 0) = false := decide_eq_false (by omega)
  have v1 : decide (n ≤ v) = false := decide_eq_false (by omega)
  go_enter Tryz.func14, Tryz.ntmps14
  go_wp2_with fail
  refine CH'.out.mono ?_
  rintro e w1 ⟨rfl, hb1⟩
  have K1 : Below w.heap.size w w1 := HB0.out.trans (hb1.mono (by simp; omega))
  have M0 := Lib.hid (HL0.out.go hb1); have M1 := Lib.hid (HL1.out.go hb1)
  have a0 := M0.out.c 0 _ rfl; have a1 := M1.out.c 0 _ rfl; have al := M0.out.lt; have bl := M1.out.lt
  have z1 := K1.size
  clear CH' HL0 HL1 HB0 hb1
  go_wp2_with fail
  go_loopw [7, 27] (fun lv iv wr => ∃ (i : Nat) (q : Option Addr) (k : Nat), i ≤ n ∧ iv = .int .i64 i ∧ lv = .slice q i k ∧ Hid (wr.ownsRow w1.heap.size 3 1 (.slice q i k) i (ints (restN i 0))) ∧ Below w1.heap.size w1 wr) (fun _ iv _ => n - (intOf iv).toNat)
  case atStart => exact ⟨0, none, 0, Nat.zero_le _, by go_num, rfl, World.ownsRow_nil _ _ _ _, Below.refl _ _⟩
  case round =>
    obtain ⟨i, q, kq, hi, rfl, rfl, OW, hbel⟩ := hrel
    have zr := hbel.size
    by_cases hin : i < n
    · have hil : (ints (restN i 0)).length = i := by rw [ints_length, restN_length]; omega
      have OW2 : Hid (∀ o, (wr.alloc o).ownsRow w1.heap.size 3 1 (.slice q i kq) (ints (restN i 0)).length (ints (restN i 0))) := fun o => by rw [hil]; exact OW.out.alloc o
      have HIL := Lib.hid hil
      clear hil OW
      go_wp2_with (first | (at_builtin; refine wpList_app1 (base := w1.heap.size) (v := .slice q i kq) (us := ints (restN i 0)) (ms := [.int .i64 i]) (p := some ⟨wr.heap.size, 0, none⟩) elInt rfl (.tmp 30) (.tmp 32) (by rfl) (by rfl) 1 (by rfl) rfl (OW2.out _) (srcV_one _ _ _) (by intro x hx; simp at hx; subst hx; rfl) (by rw [HIL.out]; simp; omega) (by simp; omega) ?_; intro qb kb w4 hown4 hg4 ho4))
      have e4 : ints (restN i 0) ++ [Value.int .i64 i] = ints (restN (i + 1) 0) := by rw [restN_snoc]; simp [ints]
      have l4 : (ints (restN (i + 1) 0)).length = i + 1 := by rw [ints_length, restN_length]; omega
      rw [e4, l4] at hown4
      have OW4 := Lib.hid hown4
      have hb4 : Below w1.heap.size w1 w4 := (hbel.alloc zr _).grown hg4 (by simp; omega) (fun r hr => ((OW2.out (.cells #[.int .i64 i] 3)).lt r hr).1)
      have LI : Hid ((ints (restN i 0)).length + 1 = i + 1) := by have := HIL.out; show _ = _; omega
      clear hown4 hg4 ho4 OW2 e4 l4
      simp only [HIL.out]
      go_wp2
      go_roundw
      case rel => exact ⟨i + 1, qb, kb, by omega, by go_num, rfl, OW4, hb4⟩
      case measure => simp [intOf]; omega
    · have ei : i = n := by omega
      subst ei
      obtain ⟨g, rfl, hg1, hg2, hg3⟩ := own_form OW.out (by omega)
      have LD := own_loc OW.out
      have KW : Below w.heap.size w wr := K1.trans (hbel.mono z1)
      have m0 := (M0.out.go hbel).c 1 _ rfl; have m1 := (M1.out.go hbel).c 0 _ rfl
      have KB : KeyBox wr w.heap.size (w.heap.size + 1) l [g] := ⟨gN, oN, i, k, v, gl, ol, kl, m0, m1, hvn, (KW.cell (p := ⟨gN, oN + v, none⟩) hgN).trans HU.out, fun j x hj => (KW.cell (p := ⟨gl, ol + j, none⟩) hgl).trans (hrow.out j x hj), by omega, by omega, by omega, by omega, by simp; omega, by simp; omega, by simp; omega, by simp; omega, by unfold maxLen; omega, by rw [HLL.out]; unfold maxLen; omega⟩
      have SS := Lib.hid (sortStable_ok w.heap.size (w.heap.size + 1) g kq l i wr KB HLL.out hn1 hp hg2 LD)
      unfold ordF at SS
      clear KB LD m0 m1 OW M0 M1
      go_wp2_with fail
      refine SS.out.mono ?_
      rintro e w5 ⟨D, rfl, hO, hL, hk⟩
      have HO := Lib.hid hO; have HLo := Lib.hid hL
      have K5 : Below w.heap.size w w5 := KW.trans (hk.below (by omega) (fun s hs => by simp at hs; omega))
      clear hO hL SS hk
      go_wp2
      go_ret2
      exact ⟨g, kq, D, rfl, HO.out, HLo.out, by omega, hg2, hg3, K5⟩
end Go.Proofs.YtigginpcokfihaaGreatDoor
