/- The statement MagazineLast: its walk. -/
import Derived.Test.YtcokmiidgdmdlaaGreatDoorDLoaded
import Derived.Test.YtcokmiidgdmdlaaGreatDoorDApp
namespace Go.Proofs.YtcokmiidgdmdlaaGreatDoor
open Go.RowKit Go.Maps
set_option linter.unusedSimpArgs false
set_option linter.unusedVariables false
attribute [local go_sem ↓] Go.wp_at_zero Go.wp_at_succ

theorem neqO (a k b m : Int) (w : World) : (binOp .neq 72 (.agg #[.int .i64 a, .int .i64 k]) (.agg #[.int .i64 b, .int .i64 m])).run Tryz.prog w = .ok (.bool (!(a == b && k == m))) w := by
  have u3 := Tryz.underlying3
  have a3 := Tryz.isAgg3
  have z3 := Tryz.sizeOf3
  have hS : Tryz.prog.underlying 72 = some (.struct (Tryz.prog.fieldsOf 72)) := by kernel_rfl
  have hp : Tryz.prog.stoodInHeld 72 = false := by kernel_rfl
  rw [run_neq_struct, show (10000 : Nat) = 9999 + 1 from rfl, run_equalIn_agg w 9999 72 _ _ hS hp]
  simp only [Program.fieldsOf, Tryz.underlying72]
  go_simp
  by_cases h1 : a = b <;> by_cases h2 : k = m <;> simp [h1, h2]
/-- a law's own row of objects: its cells -/
theorem own_obs {base : Nat} {w : World} {q : Option Addr} {k : Nat} {l : List Ob} (h : w.ownsRow base 72 2 (.slice q l.length k) l.length (encB l)) {j : Nat} {o : Ob} (hj : l[j]? = some o) :
    ∃ g, q = some ⟨g, 0, none⟩ ∧ l.length ≤ k ∧ k ≤ maxLen ∧ g < w.heap.size ∧ w.cell? ⟨g, j * 2, none⟩ = some (.int .i64 o.1) ∧ w.cell? ⟨g, j * 2 + 1, none⟩ = some (.int .i64 o.2) := by
  have r := own_rowO (X := []) h (fun _ _ q => by cases q)
  obtain ⟨p, cap, e, c1, c2⟩ := r.isSlice
  injection e with e1 e2 e3
  subst e1 e3
  rcases h.2 with ⟨e4, h3⟩ | ⟨g', cap', cur, e4, _⟩
  · have := (List.getElem?_eq_some_iff.1 hj).1; omega
  · injection e4 with e5 e6 e7
    subst e5
    obtain ⟨g, off, t, _, gl, k0, k1⟩ := r.at hj
    injection t with t; injection t with t1 t2
    subst t1 t2
    rw [Nat.zero_add] at k0 k1
    exact ⟨_, rfl, c1, c2, gl, k0, k1⟩
/-- so many taken, none given back -/
structure LsI (e i : Nat) (l : List Ob) (d : De) : Prop where
  f : FullI 8 e i d.c
  h : d.H = [([], []), ([], [])]
  p : d.P = []
  nd : l.Nodup
  sub : ∀ x ∈ l, x ∈ obsC e d.c.C
  len : l.length = i
/-- so many given back of all -/
structure LsG (e M i : Nat) (l : List Ob) (d : De) : Prop where
  f : FullI 8 e M d.c
  h : d.H = h0 l i :: [([], [])]
  p : d.P = []
  nd : l.Nodup
  sub : ∀ x ∈ l, x ∈ obsC e d.c.C
  len : l.length = M
theorem LsI.g {e i : Nat} {l : List Ob} {d : De} (h : LsI e i l d) : LsG e i 0 l d := ⟨h.f, by rw [h.h]; rfl, h.p, h.nd, h.sub, h.len⟩
theorem room_four {e : Nat} (e1 : 1 ≤ e) (e2 : e ≤ 16) : 4 ≤ roomE e := by
  unfold roomE
  exact (Nat.le_div_iff_mul_le (by omega)).2 (by omega)
theorem LsI.step {e i : Nat} {l : List Ob} {d : De} (hO : OrdZ [[0]] 1) (hI : InvD e d) (h : LsI e i l d) (hi : i < 8 * roomE e) :
    (takeD 0 [[0]] e d 0 0 true).2.1 = 0 ∧ LsI e (i + 1) (l ++ [(takeD 0 [[0]] e d 0 0 true).2.2]) (takeD 0 [[0]] e d 0 0 true).1 := by
  obtain ⟨t1, t2, t3, t4, t5, t6, t7⟩ := ls_take (k := 0) hO hI h.f hi (by unfold handD; rw [if_neg (by omega), h.h]; rfl) h.p
  refine ⟨t1, t6, by rw [t4, h.h], t5, ?_, fun x hx => (t3 x).2 ?_, by rw [List.length_append, h.len]; rfl⟩
  · rw [List.nodup_append]
    refine ⟨h.nd, by simp, fun a ha b hb q => ?_⟩
    simp at hb
    subst hb q
    exact t2 (h.sub _ ha)
  · rcases List.mem_append.1 hx with q | q
    · exact .inr (h.sub x q)
    · simp at q; exact .inl q
theorem LsG.out {e M i : Nat} {l : List Ob} {d : De} (h : LsG e M i l d) {o : Ob} (ho : l[i]? = some o) : outD e d o = true :=
  ls_out (R := [([], [])]) (by rfl) h.nd ho h.h h.p h.sub
theorem LsG.step {e M i : Nat} {l : List Ob} {d : De} (h : LsG e M i l d) (h8 : M ≤ 8) {o : Ob} (ho : l[i]? = some o) :
    (giveD e d 0 o).2 = 0 ∧ LsG e M (i + 1) l (giveD e d 0 o).1 := by
  obtain ⟨v1, v2, v3, v4⟩ := ls_give (by rw [h.len]; exact h8) ho h.h h.p (h.out ho)
  exact ⟨v1, by rw [v4]; exact h.f, v2, v3, h.nd, by rw [v4]; exact h.sub, h.len⟩
/-- so many left to take back -/
structure LsP (e t : Nat) (l : List Ob) (d : De) : Prop where
  h : ∃ g R, d.H = g :: R ∧ stH l t g
  p : d.P = []
theorem LsP.step {e t : Nat} {l : List Ob} {d : De} (h : LsP e (t + 1) l d) (h8 : l.length ≤ 8) {o : Ob} (ho : l[t]? = some o) :
    (takeD 0 [[0]] e d 0 0 true).2 = (0, o) ∧ LsP e t l (takeD 0 [[0]] e d 0 0 true).1 := by
  obtain ⟨g, R, h1, h2⟩ := h.h
  obtain ⟨p1, ⟨h', p2, p3⟩, p4, _⟩ := ls_pop h8 ho h2 h1 h.p
  exact ⟨p1, ⟨h', R, p2, p3⟩, p4⟩
/-- one taken by another: it is none of the first one's -/
theorem LsG.other {e M : Nat} {l : List Ob} {d : De} (hO : OrdZ [[0]] 1) (hI : InvD e d) (h : LsG e M M l d) (hi : M < 8 * roomE e) :
    (takeD 0 [[0]] e d 1 0 true).2.1 = 0 ∧ (takeD 0 [[0]] e d 1 0 true).2.2 ∉ l ∧ LsP e M l (takeD 0 [[0]] e d 1 0 true).1 := by
  obtain ⟨t1, t2, t3, t4, t5, t6, t7⟩ := ls_take (k := 1) hO hI h.f hi (by unfold handD; rw [if_neg (by omega), h.h]; rfl) h.p
  exact ⟨t1, fun q => t2 (h.sub _ q), ⟨_, _, by rw [t4]; exact h.h, .inl rfl⟩, t5⟩

set_option maxHeartbeats 16000000 in
set_option maxRecDepth 200000 in
theorem magazineLast_walk {B : Nat} {ev : Nat → Addr} (size many : Int) (w : World) (hE : ErrS B ev w) :
    Calls Tryz.prog 6 #[.int .i64 size, .int .i64 many] w fun e w' => e = .returned (.bool true) ∧ Below w.heap.size w w' := by
  have hB := hE.size
  have CA := Lib.hid (loaded_yes w hE)
  have HE := Lib.hid hE
  clear hE
  by_cases p1 : size < 1
  · have d1 : decide (size < 1) = true := decide_eq_true p1
    go_enter Tryz.func6, Tryz.ntmps6
    go_wp2_with fail
    refine CA.out.mono ?_
    rintro e w1 ⟨rfl, hb1⟩
    go_wp2
    go_ret
    exact ⟨rfl, hb1⟩
  have d1 : decide (size < 1) = false := decide_eq_false p1
  by_cases p2 : 16 < size
  · have d2 : decide (16 < size) = true := decide_eq_true p2
    go_enter Tryz.func6, Tryz.ntmps6
    go_wp2_with fail
    refine CA.out.mono ?_
    rintro e w1 ⟨rfl, hb1⟩
    go_wp2
    go_ret
    exact ⟨rfl, hb1⟩
  have d2 : decide (16 < size) = false := decide_eq_false p2
  by_cases p3 : many < 0
  · have d3 : decide (many < 0) = true := decide_eq_true p3
    go_enter Tryz.func6, Tryz.ntmps6
    go_wp2_with fail
    refine CA.out.mono ?_
    rintro e w1 ⟨rfl, hb1⟩
    go_wp2
    go_ret
    exact ⟨rfl, hb1⟩
  have d3 : decide (many < 0) = false := decide_eq_false p3
  by_cases p4 : 8 < many
  · have d4 : decide (8 < many) = true := decide_eq_true p4
    go_enter Tryz.func6, Tryz.ntmps6
    go_wp2_with fail
    refine CA.out.mono ?_
    rintro e w1 ⟨rfl, hb1⟩
    go_wp2
    go_ret
    exact ⟨rfl, hb1⟩
  have d4 : decide (8 < many) = false := decide_eq_false p4
  obtain ⟨e, rfl⟩ : ∃ e : Nat, size = e := ⟨size.toNat, by omega⟩
  obtain ⟨M, rfl⟩ : ∃ M : Nat, many = M := ⟨many.toNat, by omega⟩
  have e1 : 1 ≤ e := by omega
  have e2 : e ≤ 16 := by omega
  have m8 : M ≤ 8 := by omega
  clear p1 p2 p3 p4
  go_enter Tryz.func6, Tryz.ntmps6
  go_wp2_with fail
  refine CA.out.mono ?_
  rintro r w0 ⟨rfl, hb0⟩
  have z0 := hb0.size
  go_wp2_with fail
  refine (one_ok (X := []) 8 w0 (fun x hx => by cases hx)).mono ?_
  rintro r w1 ⟨vP, vN, rfl, hcfg, hb1⟩
  have z1 := hb1.size
  have HC := Lib.hid hcfg
  have B01 := Lib.hid (hb0.trans (hb1.mono z0))
  clear hcfg CA d1 d2 d3 d4
  go_wp2_with fail
  refine (oneZone vP vN 8 w1 (HE.out.z.go B01.out).c HC.out (by omega) (by omega)).mono ?_
  rintro r w2 ⟨pz, x, rfl, hz, hpz, hn, hF, hT, hb2⟩
  have z2 := hb2.size
  have hI := (hz.b.bud x (by simp)).2
  have HF0 := Lib.hid (FullI.start (pages := 8) (e := e) hI e1 (by omega) hF)
  have HZ := Lib.hid hz
  have B02 := Lib.hid (B01.out.trans (hb2.mono (by omega)))
  clear hz hI hF hT hn hb1 hb2
  go_wp2_with fail
  refine (snew_ok pz e w2 e1 (by omega)).mono ?_
  rintro r w3 ⟨rfl, hw3⟩
  have C0 := CS.new HZ.out (by simp) z2 e
  have b3 : Below w2.heap.size w2 w3 := by rw [hw3]; exact (by repeat (first | exact Below.refl _ _ | refine Below.drew ?_ | refine below_drewN ?_ _ | refine Below.trans ?_ (Below.mono (by assumption) (by first | omega | (simp; omega) | (simp; done))) | refine Below.alloc ?_ (by first | omega | (simp; omega) | (simp; done)) _ | refine Below.setCell ?_ (by first | omega | (simp; omega) | (simp; done)) _))
  rw [← hw3] at C0
  have z3 := b3.size
  have B03 := Lib.hid (B02.out.trans (b3.mono (by omega)))
  have HC0 := Lib.hid C0
  clear C0 hw3 b3
  go_wp2_with fail
  refine (show Calls Tryz.prog 32 #[.pointer (some ⟨w2.heap.size, 0, none⟩), .int .i64 2] w3 _ from dnew_ok w2.heap.size 2 w3 (by omega) (by omega)).mono ?_
  rintro r w4 ⟨rfl, hw4⟩
  have D0 := CD.start HC0.out (by omega) 2 hw4
  have b4 : Below w3.heap.size w3 w4 := by rw [hw4]; exact (by repeat (first | exact Below.refl _ _ | refine Below.drew ?_ | refine below_drewN ?_ _ | refine Below.trans ?_ (Below.mono (by assumption) (by first | omega | (simp; omega) | (simp; done))) | refine Below.alloc ?_ (by first | omega | (simp; omega) | (simp; done)) _ | refine Below.setCell ?_ (by first | omega | (simp; omega) | (simp; done)) _))
  have z4 := b4.size
  have E4 := Lib.hid ((HE.out.go (B03.out.trans (b4.mono (by omega)))).up (B' := w1.heap.size) (by omega) (by omega))
  have P0 := Lib.hid (show DpS w1.heap.size w4 (w3.heap.size + 1) w2.heap.size pz w3.heap.size 0 0 0 [[0]] e _ [] ⟨⟨[x], []⟩, List.replicate 2 ([], []), []⟩ w4 from ⟨D0, InvD.start HF0.out.inv 2 (by omega) (by omega), Below.refl _ _⟩)
  have B04 := Lib.hid (B03.out.trans (b4.mono (by omega)))
  clear D0 hw4 b4
  have hO : OrdZ [[0]] 1 := by simpa using HZ.out.ord
  have HO := Lib.hid hO
  have r4 := room_four e1 e2
  obtain ⟨pd, hpd⟩ : ∃ pd, pd = w3.heap.size + 1 := ⟨_, rfl⟩
  rw [← hpd] at P0 ⊢
  have HM8 : Hid (M < 8 * roomE e) := by show M < 8 * roomE e; omega
  have HM7 : Hid (∀ i, i < M → i < 8 * roomE e) := fun i hi => by omega
  have L0 : Hid (LsI e 0 [] ⟨⟨[x], []⟩, List.replicate 2 ([], []), []⟩) := ⟨HF0.out, rfl, rfl, List.nodup_nil, fun y hy => (by cases hy), rfl⟩
  clear hO r4 hpd
  go_wp2_with fail
  go_loopw [12, 13] (fun lv iv wr => ∃ (i : Nat) (q : Option Addr) (k : Nat) (l : List Ob) (X : List Nat) (d : De), i ≤ M ∧ iv = .int .i64 i ∧ lv = .slice q i k ∧ Hid (wr.ownsRow w4.heap.size 72 2 (.slice q i k) i (encB l)) ∧ Hid (DpS w1.heap.size w4 pd w2.heap.size pz w3.heap.size 0 0 0 [[0]] e X (ownX (.slice q i k) ++ []) d wr) ∧ Hid (LsI e i l d)) (fun _ iv _ => M - (intOf iv).toNat)
  case atStart => exact ⟨0, none, 0, [], _, _, Nat.zero_le _, by go_num, rfl, World.ownsRow_nil _ _ _ _, P0, L0⟩
  case round =>
    obtain ⟨i, q, k, l, X, d, hi, rfl, rfl, HOW, HD, HL⟩ := hrel
    clear P0 L0
    have zr := HD.out.bel.size
    by_cases hlt : i < M
    · obtain ⟨t1, t2⟩ := HL.out.step HO.out HD.out.inv (HM7.out i hlt)
      have TK := dp_take 0 0 true E4.out HD.out
      obtain ⟨⟨d1, q1, a⟩, hr1⟩ : ∃ r, r = takeD 0 [[0]] e d 0 0 true := ⟨_, rfl⟩
      rw [← hr1] at t1 t2 TK
      simp only at t1 t2 TK
      subst t1
      simp only [obV, errV] at TK
      have HTK := Lib.hid TK; have T2 := Lib.hid t2
      clear TK t2 hr1
      go_wp2_with fail
      refine HTK.out.mono ?_
      rintro r w5 ⟨rfl, K5, X1, X1n, X1m, P1⟩
      have z5 := P1.bel.size
      have O5 := own_keep HOW.out K5 (fun s hs q => (off_mem.1 hs).2 (List.mem_append_left _ q))
      have b6 : Below w5.heap.size w5 (w5.alloc (.cells #[.int .i64 a.1, .int .i64 a.2] 72)) := (by repeat (first | exact Below.refl _ _ | refine Below.drew ?_ | refine below_drewN ?_ _ | refine Below.trans ?_ (Below.mono (by assumption) (by first | omega | (simp; omega) | (simp; done))) | refine Below.alloc ?_ (by first | omega | (simp; omega) | (simp; done)) _ | refine Below.setCell ?_ (by first | omega | (simp; omega) | (simp; done)) _))
      have LA := Lib.hid (show LocN (w5.alloc (.cells #[.int .i64 a.1, .int .i64 a.2] 72)) w5.heap.size [.int .i64 a.1, .int .i64 a.2] from LocN.mk_ w5 [.int .i64 a.1, .int .i64 a.2] 72 rfl)
      have P6 := Lib.hid (P1.go (by omega) b6)
      have O6 := Lib.hid (own_keep O5 (Keep.of (S := []) b6) (fun s hs => by cases hs))
      have m0 := LA.out.c 0 _ rfl; have m1 := LA.out.c 1 _ rfl; have ml := LA.out.lt
      clear HTK K5 X1n P1 O5 b6
      have NW : Hid (∀ (j : Nat) (u : Value), [Value.int .i64 a.1, .int .i64 a.2][j]? = some u → ((w5.alloc (.cells #[.int .i64 a.1, .int .i64 a.2] 72)).alloc (.cells #[.int .i64 a.1, .int .i64 a.2] 72)).cell? ((⟨w5.heap.size + 1, 0, none⟩ : Addr).add j) = some u) := by
        have t := new_two (w5.alloc (.cells #[.int .i64 a.1, .int .i64 a.2] 72)) (.int .i64 a.1) (.int .i64 a.2) 72
        have e : (w5.alloc (.cells #[.int .i64 a.1, .int .i64 a.2] 72)).heap.size = w5.heap.size + 1 := by simp
        rw [e] at t
        exact t
      go_wp2_with (first | (at_builtin; refine wpList_appS2 elObj (base := w4.heap.size) (v := .slice q i k) (n := i) (ms := [.int .i64 a.1, .int .i64 a.2]) (ad := ⟨w5.heap.size + 1, 0, none⟩) (by rfl) (.tmp 88) (.tmp 90) (by rfl) (by rfl) (by rfl) (O6.out.alloc _) rfl NW.out (one_two _ _) (by omega) (by simp; omega) ?_; intro q4 k4 w8 hown8 hg8 hob8))
      obtain ⟨X', _, _, P8⟩ := (P6.out.go (by omega) (show Below (w5.alloc (.cells #[.int .i64 a.1, .int .i64 a.2] 72)).heap.size (w5.alloc (.cells #[.int .i64 a.1, .int .i64 a.2] 72)) ((w5.alloc (.cells #[.int .i64 a.1, .int .i64 a.2] 72)).alloc (.cells #[.int .i64 a.1, .int .i64 a.2] 72)) from (by repeat (first | exact Below.refl _ _ | refine Below.drew ?_ | refine below_drewN ?_ _ | refine Below.trans ?_ (Below.mono (by assumption) (by first | omega | (simp; omega) | (simp; done))) | refine Below.alloc ?_ (by first | omega | (simp; omega) | (simp; done)) _ | refine Below.setCell ?_ (by first | omega | (simp; omega) | (simp; done)) _)))).app (by simp; omega) hg8 hob8 (fun g hg => (hown8.lt g hg).2)
      have HP8 := Lib.hid P8
      have HO8 := Lib.hid (show w8.ownsRow w4.heap.size 72 2 (.slice q4 (i + 1) k4) (i + 1) (encB (l ++ [a])) from by rw [encB_snoc]; exact hown8)
      clear hown8 hg8 hob8 P8
      go_wp2
      go_roundw
      case rel => exact ⟨i + 1, q4, k4, l ++ [a], X', d1, by omega, by go_num, rfl, HO8, HP8, T2⟩
      case measure => simp [intOf]; omega
    · obtain rfl : i = M := by omega
      have LG0 : Hid (LsG e i 0 l d) := HL.out.g
      have HLL : Hid (l.length = i) := HL.out.len
      clear hlt HM7 HL hi
      go_wp2_with fail
      go_loopw [16] (fun iv ws => ∃ (j : Nat) (X : List Nat) (d : De), j ≤ i ∧ iv = .int .i64 j ∧ Hid (ws.ownsRow w4.heap.size 72 2 (.slice q i k) i (encB l)) ∧ Hid (DpS w1.heap.size w4 pd w2.heap.size pz w3.heap.size 0 0 0 [[0]] e X (ownX (.slice q i k) ++ []) d ws) ∧ Hid (LsG e i j l d)) (fun iv _ => i - (intOf iv).toNat)
      case atStart => exact ⟨0, X, d, Nat.zero_le _, by go_num, HOW, HD, LG0⟩
      case round =>
        obtain ⟨j, X, d, hj, rfl, HOW, HD, HL⟩ := hrel
        clear LG0
        have zs := HD.out.bel.size
        by_cases hlt : j < i
        · obtain ⟨o, ho⟩ : ∃ o, l[j]? = some o := ⟨l[j]'(by rw [HLL.out]; exact hlt), List.getElem?_eq_getElem _⟩
          obtain ⟨t1, t2⟩ := HL.out.step m8 ho
          have fit := ob_fit HD.out.inv.c (HL.out.sub o (List.mem_of_getElem? ho))
          have GV := dp_give 0 o E4.out HD.out fit.1 fit.2
          have own' := HOW.out
          rw [← HLL.out] at own'
          obtain ⟨g, eg, k1, k2, gl, y0, y1⟩ := own_obs own' ho
          subst eg
          unfold maxLen at k2
          have hli : (j : Int) < (i : Int) := by omega
          have hl0 : (0 : Int) ≤ (j : Int) := by omega
          obtain ⟨⟨d1, q1⟩, hr1⟩ : ∃ r, r = giveD e d 0 o := ⟨_, rfl⟩
          rw [← hr1] at t1 t2 GV
          simp only at t1 t2 GV
          subst t1
          simp only [errV] at GV
          have HGV := Lib.hid GV; have T2 := Lib.hid t2
          clear GV t2 hr1 fit own' ho k1
          go_wp2_with fail
          refine HGV.out.mono ?_
          rintro r w5 ⟨rfl, K5, X1, X1n, X1m, P1⟩
          have O5 := Lib.hid (own_keep HOW.out K5 (fun s hs q => (off_mem.1 hs).2 (List.mem_append_left _ q)))
          have HP1 := Lib.hid P1
          clear HGV K5 X1n X1m P1 y0 y1
          go_wp2
          go_roundw
          case rel => exact ⟨j + 1, X1, d1, by omega, by go_num, O5, HP1, T2⟩
          case measure => simp [intOf]; omega
        · obtain rfl : j = i := by omega
          obtain ⟨t1, t2, t3⟩ := HL.out.other HO.out HD.out.inv HM8.out
          have TK := dp_take 1 0 true E4.out HD.out
          obtain ⟨⟨d1, q1, a⟩, hr1⟩ : ∃ r, r = takeD 0 [[0]] e d 1 0 true := ⟨_, rfl⟩
          rw [← hr1] at t1 t2 t3 TK
          simp only at t1 t2 t3 TK
          subst t1
          simp only [obV, errV] at TK
          have HTK := Lib.hid TK; have T2 := Lib.hid t2; have T3 := Lib.hid t3
          clear TK t2 t3 hr1 hlt HL hj
          go_wp2_with fail
          refine HTK.out.mono ?_
          rintro r w5 ⟨rfl, K5, X1, X1n, X1m, P1⟩
          have z5 := P1.bel.size
          have O5 := own_keep HOW.out K5 (fun s hs q => (off_mem.1 hs).2 (List.mem_append_left _ q))
          have NA : Hid (w5.heap.size ∉ X1) := fun q => by have := (P1.lim _ q).2; omega
          clear HTK K5 X1n X1m
          go_wp2_with fail
          obtain ⟨w6, hw6⟩ : ∃ w6, w6 = w5.alloc (.cells #[.int .i64 a.1, .int .i64 a.2] 72) := ⟨_, rfl⟩
          rw [← hw6]
          have b6 : Below w5.heap.size w5 w6 := by rw [hw6]; exact (by repeat (first | exact Below.refl _ _ | refine Below.drew ?_ | refine below_drewN ?_ _ | refine Below.trans ?_ (Below.mono (by assumption) (by first | omega | (simp; omega) | (simp; done))) | refine Below.alloc ?_ (by first | omega | (simp; omega) | (simp; done)) _ | refine Below.setCell ?_ (by first | omega | (simp; omega) | (simp; done)) _))
          have LA := Lib.hid (show LocN w6 w5.heap.size [.int .i64 a.1, .int .i64 a.2] from by rw [hw6]; exact LocN.mk_ w5 [.int .i64 a.1, .int .i64 a.2] 72 rfl)
          have z6 := b6.size
          have P6 := Lib.hid (P1.go (by omega) b6)
          have O6 := Lib.hid (own_keep O5 (Keep.of (S := []) b6) (fun s hs => by cases hs))
          clear P1 O5 b6 hw6
          go_loopw [18] (fun iv wt => ∃ (t : Nat), t ≤ j ∧ iv = .int .i64 t ∧ Below w6.heap.size w6 wt) (fun iv _ => j - (intOf iv).toNat)
          case atStart => exact ⟨0, Nat.zero_le _, by go_num, Below.refl _ _⟩
          case round =>
            obtain ⟨t, ht, rfl, hbt⟩ := hrel
            have zt := hbt.size
            by_cases hlt : t < j
            · obtain ⟨o, ho⟩ : ∃ o, l[t]? = some o := ⟨l[t]'(by rw [HLL.out]; exact hlt), List.getElem?_eq_getElem _⟩
              have own' := own_keep O6.out (Keep.of (S := []) hbt) (fun s hs => by cases hs)
              rw [← HLL.out] at own'
              obtain ⟨g, eg, k1, k2, gl, y0, y1⟩ := own_obs own' ho
              subst eg
              unfold maxLen at k2
              have hli : (t : Int) < (j : Int) := by omega
              have hl0 : (0 : Int) ≤ (t : Int) := by omega
              have M6 := LA.out.go hbt
              have x0 := M6.c 0 _ rfl; have x1 := M6.c 1 _ rfl; have xl := M6.lt
              have hne : (o.1 == a.1 && o.2 == a.2) = false := by
                cases hq : (o.1 == a.1 && o.2 == a.2) with
                | false => rfl
                | true =>
                  simp at hq
                  exact absurd (show a ∈ l from by rw [show a = o from Prod.ext hq.1.symm hq.2.symm]; exact List.mem_of_getElem? ho) T2.out
              have eb := eqO; have gb := guardO
              have HB := Lib.hid hbt
              clear own' ho k1 M6 hbt
              go_wp2_with fail
              go_quiet (fail)
              go_wp2
              go_round
              case rel => exact ⟨t + 1, by omega, by go_num, HB.out.trans (by repeat (first | exact Below.refl _ _ | refine Below.drew ?_ | refine below_drewN ?_ _ | refine Below.trans ?_ (Below.mono (by assumption) (by first | omega | (simp; omega) | (simp; done))) | refine Below.alloc ?_ (by first | omega | (simp; omega) | (simp; done)) _ | refine Below.setCell ?_ (by first | omega | (simp; omega) | (simp; done)) _))⟩
              case measure => simp [intOf]; omega
            · have P7 := Lib.hid (P6.out.go (by omega) hbt)
              have O7 := Lib.hid (own_keep O6.out (Keep.of (S := []) hbt) (fun s hs => by cases hs))
              have hw1 : IntKind.i64.wrap ((j : Int) - 1) = (j : Int) - 1 := IntWalk.i64_in _ (by omega)
              have nlt : ¬ ((t : Int) < (j : Int)) := by omega
              clear P6 O6 LA hbt T2 NA
              go_wp2_with fail
              go_loopw [19] (fun iv wt => ∃ (t : Nat) (X : List Nat) (d : De), t ≤ j ∧ iv = .int .i64 ((t : Int) - 1) ∧ Hid (wt.ownsRow w4.heap.size 72 2 (.slice q j k) j (encB l)) ∧ Hid (DpS w1.heap.size w4 pd w2.heap.size pz w3.heap.size 0 0 0 [[0]] e X (ownX (.slice q j k) ++ []) d wt) ∧ Hid (LsP e t l d)) (fun iv _ => ((intOf iv) + 1).toNat)
              case atStart => exact ⟨j, X1, d1, Nat.le_refl _, rfl, O7, P7, T3⟩
              case round =>
                obtain ⟨t, X, d, ht, rfl, HOW, HD, HL⟩ := hrel
                clear O7 P7 T3
                have zu := HD.out.bel.size
                cases t with
                | zero =>
                  have FB := Lib.hid (B04.out.trans (HD.out.bel.mono (by omega)))
                  have hz : ¬ ((0 : Int) ≤ ((0 : Nat) : Int) - 1) := by omega
                  have hz' : decide ((0 : Int) ≤ ((0 : Nat) : Int) - 1) = false := decide_eq_false hz
                  go_wp2
                  go_ret
                  exact ⟨rfl, FB.out⟩
                | succ t =>
                  obtain ⟨o, ho⟩ : ∃ o, l[t]? = some o := ⟨l[t]'(by rw [HLL.out]; omega), List.getElem?_eq_getElem _⟩
                  obtain ⟨t1, t2⟩ := HL.out.step (by rw [HLL.out]; exact m8) ho
                  have TK := dp_take 0 0 true E4.out HD.out
                  obtain ⟨⟨d2, q2, b⟩, hr2⟩ : ∃ r, r = takeD 0 [[0]] e d 0 0 true := ⟨_, rfl⟩
                  rw [← hr2] at t1 t2 TK
                  simp only at t1 t2 TK
                  obtain ⟨rfl, rfl⟩ := Prod.mk.inj t1
                  simp only [obV, errV] at TK
                  have et : (((t + 1 : Nat) : Int) - 1) = (t : Int) := by omega
                  rw [et]
                  have hl0 : (0 : Int) ≤ (t : Int) := by omega
                  have HTK := Lib.hid TK; have T2 := Lib.hid t2; have HOB := Lib.hid ho
                  clear TK t1 t2 hr2 et ho
                  go_wp2_with fail
                  refine HTK.out.mono ?_
                  rintro r w8 ⟨rfl, K8, X2, X2n, X2m, P8⟩
                  have z8 := P8.bel.size
                  have O8 := own_keep HOW.out K8 (fun s hs q => (off_mem.1 hs).2 (List.mem_append_left _ q))
                  clear HTK K8 X2n X2m
                  go_wp2_with fail
                  obtain ⟨w9, hw9⟩ : ∃ w9, w9 = w8.alloc (.cells #[.int .i64 b.1, .int .i64 b.2] 72) := ⟨_, rfl⟩
                  rw [← hw9]
                  have b9 : Below w8.heap.size w8 w9 := by rw [hw9]; exact (by repeat (first | exact Below.refl _ _ | refine Below.drew ?_ | refine below_drewN ?_ _ | refine Below.trans ?_ (Below.mono (by assumption) (by first | omega | (simp; omega) | (simp; done))) | refine Below.alloc ?_ (by first | omega | (simp; omega) | (simp; done)) _ | refine Below.setCell ?_ (by first | omega | (simp; omega) | (simp; done)) _))
                  have LB := (show LocN w9 w8.heap.size [.int .i64 b.1, .int .i64 b.2] from by rw [hw9]; exact LocN.mk_ w8 [.int .i64 b.1, .int .i64 b.2] 72 rfl)
                  have z9 := b9.size
                  have P9 := Lib.hid (P8.go (by omega) b9)
                  have O9 := Lib.hid (own_keep O8 (Keep.of (S := []) b9) (fun s hs => by cases hs))
                  have own' := O9.out
                  rw [← HLL.out] at own'
                  obtain ⟨g, eg, k1, k2, gl, y0, y1⟩ := own_obs own' HOB.out
                  subst eg
                  unfold maxLen at k2
                  have hli : (t : Int) < (j : Int) := by omega
                  have x0 := LB.c 0 _ rfl; have x1 := LB.c 1 _ rfl; have xl := LB.lt
                  have nb := neqO; have gb := guardO
                  have hw1 : IntKind.i64.wrap ((t : Int) - 1) = (t : Int) - 1 := IntWalk.i64_in _ (by omega)
                  clear P8 O8 b9 hw9 LB own' k1
                  go_quiet (fail)
                  go_wp2
                  go_roundw
                  case rel => exact ⟨t, X2, d2, by omega, rfl, own_keep O9.out (Keep.of (S := []) (show Below w9.heap.size w9 _ from (by repeat (first | exact Below.refl _ _ | refine Below.drew ?_ | refine below_drewN ?_ _ | refine Below.trans ?_ (Below.mono (by assumption) (by first | omega | (simp; omega) | (simp; done))) | refine Below.alloc ?_ (by first | omega | (simp; omega) | (simp; done)) _ | refine Below.setCell ?_ (by first | omega | (simp; omega) | (simp; done)) _)))) (fun s hs => by cases hs), P9.out.go (by omega) (by repeat (first | exact Below.refl _ _ | refine Below.drew ?_ | refine below_drewN ?_ _ | refine Below.trans ?_ (Below.mono (by assumption) (by first | omega | (simp; omega) | (simp; done))) | refine Below.alloc ?_ (by first | omega | (simp; omega) | (simp; done)) _ | refine Below.setCell ?_ (by first | omega | (simp; omega) | (simp; done)) _)), T2⟩
                  case measure => simp [intOf]
end Go.Proofs.YtcokmiidgdmdlaaGreatDoor
