/- slices.DeleteFunc and slices.MinFunc at blocks of pages, as (*Buddy).Take calls them, by their contracts. -/
import Derived.Test.YtigginpcokfihaaGreatDoorBudC
import Derived.LoopTactic
import Derived.Lib.SliceRun
import Derived.WalkSpells
import Derived.OwnWalk
namespace Go.Proofs.YtigginpcokfihaaGreatDoor
open Go.RowKit
set_option linter.unusedSimpArgs false

theorem fitL_all {o : Int} {F : List (Int × Int)} (h : ∀ x ∈ F, ¬ x.2 < o) : fitL o F = F := List.filter_eq_self.2 fun x hx => by simp; have := h x hx; omega
theorem first_small (o : Int) : ∀ F : List (Int × Int), (∀ x ∈ F, ¬ x.2 < o) ∨ ∃ i z, F[i]? = some z ∧ z.2 < o ∧ ∀ x ∈ F.take i, ¬ x.2 < o
  | [] => .inl fun x h => by cases h
  | y :: r => by
    by_cases h : y.2 < o
    · exact .inr ⟨0, y, rfl, h, fun x hx => by simp at hx⟩
    · rcases first_small o r with h1 | ⟨i, z, h1, h2, h3⟩
      · refine .inl fun x hx => ?_
        rcases List.mem_cons.1 hx with rfl | hx
        · exact h
        · exact h1 x hx
      · refine .inr ⟨i + 1, z, by simpa using h1, h2, fun x hx => ?_⟩
        rw [List.take_succ_cons] at hx
        rcases List.mem_cons.1 hx with rfl | hx
        · exact h
        · exact h3 x hx
theorem zeroB : ∀ w : World, (zeroValue 39).run Tryz.prog w = .ok (.agg #[.int .i64 0, .int .i64 0]) w := fun _ => by kernel_rfl

def zs2 (n : Nat) : List Value := (Builtin.zeroCells #[.int .i64 0, .int .i64 0] n).toList
theorem zs2_length (n : Nat) : (zs2 n).length = n * 2 := by simp [zs2, Builtin.zeroCells]
theorem zs2_one (n : Nat) : ∀ v ∈ zs2 n, v.oneCell' = true := by
  intro v hv
  simp only [zs2, Builtin.zeroCells, Array.toList_map, List.mem_map] at hv
  obtain ⟨i, _, rfl⟩ := hv
  have : i % 2 = 0 ∨ i % 2 = 1 := by omega
  rcases this with e | e <;> simp [e] <;> rfl
theorem run_clear2 (w : World) (ty : TypeId) (b o n c : Nat) (hn : 0 < n) (hc : ∀ j, j < n * 2 → (w.cell? ⟨b, o + j, none⟩).isSome = true) (hf : ∀ j, j < n * 2 → w.frozen? ⟨b, o + j, none⟩ = false) :
    (Builtin.clear_ #[75] ty #[.slice (some ⟨b, o, none⟩) n c]).run Tryz.prog w = .ok (.tuple #[]) (w.setCells b o (zs2 n)) := by
  have hst := run_storeCells_cells (P := Tryz.prog) b o (zs2 n) 0 w (by rw [zs2_length]; simpa using hc) (by rw [zs2_length]; simpa using hf) (zs2_one n)
  simp only [Nat.add_zero] at hst
  obtain ⟨m, rfl⟩ : ∃ m, n = m + 1 := ⟨n - 1, by omega⟩
  have hz : (Value.agg #[.int .i64 0, .int .i64 0]).cells = #[.int .i64 0, .int .i64 0] := rfl
  simp [Builtin.clear_, run_underlying Tryz.underlying75, zeroB, hz]
  rw [show (Builtin.zeroCells #[.int .i64 0, .int .i64 0] (m + 1)).toList = zs2 (m + 1) from rfl, hst]
  rfl
theorem Row2.cells {w : World} {g : Nat} {l : List (Int × Int)} (h : Row2 w g l) {o : Nat} (ho : o < l.length * 2) : (w.cell? ⟨g, o, none⟩).isSome = true ∧ w.frozen? ⟨g, o, none⟩ = false := by
  have hj : o / 2 < l.length := by omega
  obtain ⟨p, hp⟩ : ∃ p, l[o / 2]? = some p := ⟨l[o / 2], List.getElem?_eq_getElem _⟩
  obtain ⟨a, k⟩ := p
  obtain ⟨⟨h1, h2⟩, h3, h4⟩ := h _ a k hp
  have : o = o / 2 * 2 ∨ o = o / 2 * 2 + 1 := by omega
  rcases this with e | e
  · rw [e]; exact ⟨by rw [h1]; rfl, h3⟩
  · rw [e]; exact ⟨by rw [h2]; rfl, h4⟩
theorem Row2.cut {w : World} {g : Nat} {l : List (Int × Int)} (h : Row2 w g l) (i : Nat) (vs : List Value) : Row2 (w.setCells g (i * 2) vs) g (l.take i) := by
  intro j a k hj
  have hji : j < i := by
    have := (List.getElem?_eq_some_iff.1 hj).1
    rw [List.length_take] at this; omega
  rw [List.getElem?_take_of_lt hji] at hj
  obtain ⟨⟨h1, h2⟩, h3, h4⟩ := h j a k hj
  rw [World.cell?_setCells_out _ _ _ _ _ (fun _ _ => .inl (by show j * 2 < i * 2; omega)), World.cell?_setCells_out _ _ _ _ _ (fun _ _ => .inl (by show j * 2 + 1 < i * 2; omega)), World.frozen?_setCells, World.frozen?_setCells]
  exact ⟨⟨h1, h2⟩, h3, h4⟩
theorem Keep.setCells {S : List Nat} {a : World} (b : Nat) (hb : b ∈ S ∨ a.heap.size ≤ b) : ∀ (vs : List Value) (o : Nat) {w : World}, Keep S a w → Keep S a (w.setCells b o vs)
  | [], _, _, h => h
  | v :: r, o, _, h => Keep.setCells b hb r (o + 1) (h.setCell (p := ⟨b, o, none⟩) hb v)

set_option maxHeartbeats 1000000 in
theorem delF_none (g cap c : Nat) (o : Int) (F : List (Int × Int)) (w : World) (hF : Row2 w g F) (hg : g < w.heap.size) (hl : F.length ≤ 256) (hc : w.cell? ⟨c, 0, none⟩ = some (.int .i64 o)) (hcl : c < w.heap.size)
    (hall : ∀ x ∈ F, ¬ x.2 < o) :
    Calls Tryz.prog 55 #[.slice (some ⟨g, 0, none⟩) F.length cap, clos c] w fun e w' => e = .returned (.slice (some ⟨g, 0, none⟩) (fitL o F).length cap) ∧ Row2 w' g (fitL o F) ∧ Keep [g] w w' := by
  have I := Lib.hid (idx_none g cap c o F w hF hg hl hc hcl hall)
  rw [fitL_all hall]
  have HF := Lib.hid hF; have HA := Lib.hid hall
  clear hF hall hc
  obtain ⟨n, hn⟩ : ∃ n, n = F.length := ⟨_, rfl⟩
  rw [← hn] at hl I ⊢
  clear hn
  unfold clos at *
  go_enter Tryz.func55, Tryz.ntmps55
  go_wp2_with fail
  refine I.out.mono ?_
  rintro e w1 ⟨rfl, hb1⟩
  go_wp2
  go_ret
  exact ⟨rfl, HF.out.keep (Keep.of (S := []) hb1) hg (by simp), Keep.of hb1⟩

set_option maxHeartbeats 2000000 in
set_option maxRecDepth 100000 in
theorem delF_some (g cap c i0 : Nat) (o : Int) (F : List (Int × Int)) (z : Int × Int) (w : World) (hF : Row2 w g F) (hg : g < w.heap.size) (hl : F.length ≤ 256) (hcap : F.length ≤ cap) (hc : w.cell? ⟨c, 0, none⟩ = some (.int .i64 o)) (hcl : c < w.heap.size) (hcg : c ≠ g)
    (hz : F[i0]? = some z) (hp : z.2 < o) (hall : ∀ x ∈ F.take i0, ¬ x.2 < o) :
    Calls Tryz.prog 55 #[.slice (some ⟨g, 0, none⟩) F.length cap, clos c] w fun e w' => e = .returned (.slice (some ⟨g, 0, none⟩) (fitL o F).length cap) ∧ Row2 w' g (fitL o F) ∧ Keep [g] w w' := by
  have I := Lib.hid (idx_some g cap c i0 o F z w hF hg hl hc hcl hz hp hall)
  have D0 := Lib.hid (DelInv.start (p := fun x => decide (x.2 < o)) hz (by simpa using hp) (by simpa using hall))
  have hil := (List.getElem?_eq_some_iff.1 hz).1
  have HF := Lib.hid hF
  have i1 : ((i0 : Int) == -1) = false := beq_eq_false_iff_ne.2 (by omega)
  clear hF hall hz hp
  obtain ⟨n, hn⟩ : ∃ n, n = F.length := ⟨_, rfl⟩
  rw [← hn] at hl I hil hcap ⊢
  have HN := Lib.hid hn
  clear hn
  unfold clos at *
  go_enter Tryz.func55, Tryz.ntmps55
  go_wp2_with fail
  refine I.out.mono ?_
  rintro e w1 ⟨rfl, hb1⟩
  clear I
  have k1 : Keep [g] w w1 := Keep.of hb1
  have R1 := Lib.hid (HF.out.keep (Keep.of (S := []) hb1) hg (by simp))
  clear HF
  go_wp2_with fail
  clear i1
  go_loopw [5, 6, 7] (fun iv jv _ wr => ∃ (i j : Nat) (L : List (Int × Int)), iv = .int .i64 i ∧ jv = .int .i64 j ∧ Hid (DelInv (fun x => decide (x.2 < o)) F i j L) ∧ Hid (Row2 wr g L) ∧ Keep [g] w wr) (fun _ jv _ _ => n - (intOf jv).toNat)
  case atStart => exact ⟨i0, i0 + 1, F, rfl, by go_num, D0, R1, k1⟩
  case round =>
    obtain ⟨i, j, L, rfl, rfl, DI, RW, hk⟩ := hrel
    have hdi := DI.out
    have d1 := hdi.lt; have d2 := hdi.le; have d3 := hdi.len
    rw [← HN.out] at d2 d3
    clear D0 R1
    have zr := hk.size
    by_cases hjn : j < n
    · obtain ⟨y, hy⟩ : ∃ y, L[j]? = some y := ⟨L[j]'(by omega), List.getElem?_eq_getElem _⟩
      obtain ⟨y0, hy0⟩ : ∃ y, L[i]? = some y := ⟨L[i]'(by omega), List.getElem?_eq_getElem _⟩
      have hyF : F[j]? = some y := by rw [← hdi.at j (Nat.le_refl _)]; exact hy
      obtain ⟨x, k⟩ := y
      obtain ⟨x0, k0⟩ := y0
      obtain ⟨⟨r1, r2⟩, _, _⟩ := RW.out j x k hy
      obtain ⟨⟨s1, s2⟩, s3, s4⟩ := RW.out i x0 k0 hy0
      have HYF := Lib.hid hyF
      have rc : wr.cell? ⟨c, 0, none⟩ = some (.int .i64 o) := (hk.cell hcl (by simpa using hcg)).trans hc
      have hil2 : i < L.length := by omega
      clear hdi hy hy0 hyF d2 d3
      have rc' : (wr.alloc (.cells #[.int .i64 x, .int .i64 k] 39)).cell? ⟨c, 0, none⟩ = some (.int .i64 o) := by rw [World.cell?_alloc_past _ _ _ (by show c < _; omega)]; exact rc
      cases hq : decide (k < o) with
      | true =>
        have HQ := Lib.hid hq
        have sm := small_any x k o c _ rc' (by simp; omega)
        rw [hq] at sm
        have SM := Lib.hid sm
        clear sm hq rc rc'
        go_wp2_with fail
        refine SM.out.mono ?_
        rintro e w2 ⟨rfl, hb2⟩
        have hk2 : Keep [g] wr w2 := (Keep.refl _ _).alloc _ |>.step hb2
        go_wp2
        go_roundw
        case rel => exact ⟨i, j + 1, L, rfl, by go_num, DI.out.skip HYF.out HQ.out, RW.out.keep (S := []) ((Keep.refl _ _).alloc _ |>.step hb2) (by omega) (by simp), hk.then hk2⟩
        case measure => simp [intOf]; omega
      | false =>
        have HQ := Lib.hid hq
        have sm := small_any x k o c _ rc' (by simp; omega)
        rw [hq] at sm
        have SM := Lib.hid sm
        clear sm hq rc rc'
        go_wp2_with fail
        refine SM.out.mono ?_
        rintro e w2 ⟨rfl, hb2⟩
        have hk2 : Keep [g] wr w2 := (Keep.refl _ _).alloc _ |>.step hb2
        have hk0 : Keep [] wr w2 := (Keep.refl _ _).alloc _ |>.step hb2
        have hgr : g < wr.heap.size := by omega
        have t1 := (hk0.cell (o := i * 2) hgr (by simp)).trans s1
        have t2 := (hk0.cell (o := i * 2 + 1) hgr (by simp)).trans s2
        have t3 := (hk0.frozen (o := i * 2) hgr (by simp)).trans s3
        have t4 := (hk0.frozen (o := i * 2 + 1) hgr (by simp)).trans s4
        have bx : w2.cell? ⟨wr.heap.size, 0, none⟩ = some (.int .i64 x) := (hb2.cell (p := ⟨wr.heap.size, 0, none⟩) (by simp)).trans (by rw [World.cell?_alloc_at _ _ _ _ (by simp)]; rfl)
        have by' : w2.cell? ⟨wr.heap.size, 1, none⟩ = some (.int .i64 k) := (hb2.cell (p := ⟨wr.heap.size, 1, none⟩) (by simp)).trans (by rw [World.cell?_alloc_at _ _ _ _ (by simp)]; rfl)
        have R2 := Lib.hid ((RW.out.keep hk0 hgr (by simp)).set hil2 x k)
        clear r1 r2 s1 s2 s3 s4 hb2
        go_wp2
        go_roundw
        case rel => exact ⟨i + 1, j + 1, L.set i (x, k), by go_num, by go_num, DI.out.keep HYF.out HQ.out, R2, ((hk.then hk2).setCell (.inl (by simp)) _).setCell (.inl (by simp)) _⟩
        case measure => simp [intOf]; omega
    · have ej : j = n := by omega
      rw [ej, HN.out] at hdi
      obtain ⟨f1, f2, f3⟩ := hdi.done
      rw [d3] at f3
      have e1 : n - i + i = n := by omega
      have hcl := fun ty => run_clear2 wr ty g (i * 2) (n - i) (cap - i) (by omega) (fun q hq => (RW.out.cells (o := i * 2 + q) (by rw [d3]; omega)).1) (fun q hq => (RW.out.cells (o := i * 2 + q) (by rw [d3]; omega)).2)
      have F1 := Lib.hid f1; have F2 := Lib.hid f2
      clear hdi f1 f2 e1 d1 d2
      obtain rfl : j = n := ej
      have hneg : ¬ ((j : Int) < (j : Int)) := by omega
      go_wp2
      go_ret
      have hfit : fitL o F = F.filter fun x => !decide (x.2 < o) := rfl
      rw [hfit, ← F2.out, ← F1.out]
      exact ⟨rfl, RW.out.cut i _, Keep.setCells g (.inl (by simp)) _ _ hk⟩
theorem delF_any (g cap c : Nat) (o : Int) (F : List (Int × Int)) (w : World) (hF : Row2 w g F) (hg : g < w.heap.size) (hl : F.length ≤ 256) (hcap : F.length ≤ cap) (hc : w.cell? ⟨c, 0, none⟩ = some (.int .i64 o)) (hcl : c < w.heap.size) (hcg : c ≠ g) :
    Calls Tryz.prog 55 #[.slice (some ⟨g, 0, none⟩) F.length cap, clos c] w fun e w' => e = .returned (.slice (some ⟨g, 0, none⟩) (fitL o F).length cap) ∧ Row2 w' g (fitL o F) ∧ Keep [g] w w' := by
  rcases first_small o F with h | ⟨i, z, h1, h2, h3⟩
  · exact delF_none g cap c o F w hF hg hl hc hcl h
  · exact delF_some g cap c i o F z w hF hg hl hcap hc hcl hcg h1 h2 h3
/-- .. of a nil slice -/
theorem delF_nil (c : Nat) (w : World) :
    Calls Tryz.prog 55 #[.slice none 0 0, clos c] w fun e w' => e = .returned (.slice none 0 0) ∧ w = w' := by
  have I : ∀ w, Calls Tryz.prog 61 #[.slice none 0 0, clos c] w fun e w' => e = .returned (.int .i64 (-1)) ∧ w = w' := by
    intro w
    unfold clos
    go_enter Tryz.func61, Tryz.ntmps61
    go_wp2_with fail
    refine wp_loop_rounds 1 ?_
    rw [rounds_succ]
    go_wp2
    go_ret
    exact ⟨rfl, rfl⟩
  unfold clos at *
  go_enter Tryz.func55, Tryz.ntmps55
  go_wp2_with fail
  refine (I _).mono ?_
  rintro e w1 ⟨rfl, rfl⟩
  go_wp2
  go_ret
  exact ⟨rfl, rfl⟩

theorem minL_snoc' {F : List (Int × Int)} {i : Nat} {z x : Int × Int} {r : List (Int × Int)} (h : F.take i = z :: r) (hx : F[i]? = some x) : ∃ r', F.take (i + 1) = z :: r' ∧ minL z r' = if x.2 < (minL z r).2 then x else minL z r := by
  refine ⟨r ++ [x], ?_, ?_⟩
  · rw [List.take_add_one, h, hx]; rfl
  · have : ∀ (r : List (Int × Int)) (z : Int × Int), minL z (r ++ [x]) = if x.2 < (minL z r).2 then x else minL z r := by
      intro r
      induction r with
      | nil => intro z; rfl
      | cons y s ih => intro z; exact ih _
    exact this r z

set_option maxHeartbeats 2000000 in
set_option maxRecDepth 100000 in
/-- the first of the lowest order -/
theorem minF_any (g cap : Nat) (z : Int × Int) (r : List (Int × Int)) (w : World) (hF : Row2 w g (z :: r)) (hg : g < w.heap.size) (hl : (z :: r).length ≤ 256) :
    Calls Tryz.prog 58 #[.slice (some ⟨g, 0, none⟩) (z :: r).length cap, .func (.func 59) #[] #[]] w fun e w' => e = .returned (.agg #[.int .i64 (minL z r).1, .int .i64 (minL z r).2]) ∧ Below w.heap.size w w' := by
  have n1 : 1 ≤ (z :: r).length := by simp
  obtain ⟨F, hFe⟩ : ∃ F, F = z :: r := ⟨_, rfl⟩
  rw [← hFe] at hF hl n1 ⊢
  have HFE := Lib.hid hFe
  have HF := Lib.hid hF
  clear hFe hF
  obtain ⟨n, hn⟩ : ∃ n, n = F.length := ⟨_, rfl⟩
  rw [← hn] at hl n1 ⊢
  have HN := Lib.hid hn
  clear hn
  obtain ⟨⟨q1, q2⟩, _, _⟩ := HF.out 0 z.1 z.2 (by rw [HFE.out]; rfl)
  have q1' : w.cell? ⟨g, 0, none⟩ = some (.int .i64 z.1) := q1
  have q2' : w.cell? ⟨g, 1, none⟩ = some (.int .i64 z.2) := q2
  have c1 : decide ((n : Int) < 1) = false := decide_eq_false (by omega)
  have c2 : (0 : Int) < n := by omega
  clear q1 q2
  go_enter Tryz.func58, Tryz.ntmps58
  go_wp2_with fail
  clear c1 c2 q1' q2'
  go_loopw [6] (fun iv wr => ∃ (i : Nat) (r' : List (Int × Int)), 1 ≤ i ∧ i ≤ n ∧ iv = .int .i64 (i : Int) ∧ Hid (F.take i = z :: r') ∧ Hid (wr.cell? ⟨w.heap.size + 1, 0, none⟩ = some (.int .i64 (minL z r').1) ∧ wr.cell? ⟨w.heap.size + 1, 1, none⟩ = some (.int .i64 (minL z r').2)
    ∧ wr.frozen? ⟨w.heap.size + 1, 0, none⟩ = false ∧ wr.frozen? ⟨w.heap.size + 1, 1, none⟩ = false ∧ wr.frozen? ⟨w.heap.size, 0, none⟩ = false ∧ wr.frozen? ⟨w.heap.size, 1, none⟩ = false
    ∧ wr.cell? ⟨w.heap.size, 0, none⟩ = some (.int .i64 0) ∧ wr.cell? ⟨w.heap.size, 1, none⟩ = some (.int .i64 0)) ∧ w.heap.size + 1 < wr.heap.size ∧ Below w.heap.size w wr) (fun iv _ => n - (intOf iv).toNat)
  case atStart =>
    refine ⟨1, [], by omega, n1, by go_num, (show _ = _ by rw [HFE.out]; rfl), ⟨?_, ?_, ?_, ?_, ?_, ?_, ?_, ?_⟩, by simp, (by repeat (first | exact Below.refl _ _ | refine Below.drew ?_ | refine below_drewN ?_ _ | refine Below.trans ?_ (Below.mono (by assumption) (by first | omega | (simp; omega) | (simp; done))) | refine Below.alloc ?_ (by first | omega | (simp; omega) | (simp; done)) _ | refine Below.setCell ?_ (by first | omega | (simp; omega) | (simp; done)) _))⟩
    · rw [World.cell?_alloc_at _ _ _ _ (by simp)]; rfl
    · rw [World.cell?_alloc_at _ _ _ _ (by simp)]; rfl
    · exact World.frozen?_alloc_at _ _ _ _ (by simp)
    · exact World.frozen?_alloc_at _ _ _ _ (by simp)
    · rw [World.frozen?_alloc_past _ _ _ (by simp)]; exact World.frozen?_alloc_at _ _ _ _ (by simp)
    · rw [World.frozen?_alloc_past _ _ _ (by simp)]; exact World.frozen?_alloc_at _ _ _ _ (by simp)
    · rw [World.cell?_alloc_past _ _ _ (by simp), World.cell?_alloc_at _ _ _ _ (by simp)]; rfl
    · rw [World.cell?_alloc_past _ _ _ (by simp), World.cell?_alloc_at _ _ _ _ (by simp)]; rfl
  case round =>
    obtain ⟨i, r', hi1, hi, rfl, HT, HM, hz, hbel⟩ := hrel
    obtain ⟨m1, m2, m3, m4, m5, m6, m7, m8⟩ := HM.out
    by_cases hlt : i < n
    · obtain ⟨y, hy⟩ : ∃ y, F[i]? = some y := ⟨F[i]'(by rw [← HN.out]; exact hlt), List.getElem?_eq_getElem _⟩
      obtain ⟨r2, hr2, hmin⟩ := minL_snoc' HT.out hy
      obtain ⟨x, k⟩ := y
      obtain ⟨⟨p1, p2⟩, _, _⟩ := HF.out i x k hy
      have r1 : wr.cell? ⟨g, i * 2, none⟩ = some (.int .i64 x) := (hbel.cell (p := ⟨g, i * 2, none⟩) hg).trans p1
      have r3 : wr.cell? ⟨g, i * 2 + 1, none⟩ = some (.int .i64 k) := (hbel.cell (p := ⟨g, i * 2 + 1, none⟩) hg).trans p2
      have R2 := Lib.hid hr2
      have zg : g < wr.heap.size := by omega
      clear hy hr2 p1 p2
      obtain ⟨mx, hmx⟩ : ∃ mx, mx = minL z r' := ⟨_, rfl⟩
      rw [← hmx] at m1 m2 hmin
      have la := fun w => lower_any x k mx.1 mx.2 w
      by_cases hk : k < mx.2
      · rw [if_pos hk] at hmin
        have HMI := Lib.hid hmin
        have hcmp : cmpI k mx.2 = -1 := by unfold cmpI; rw [if_pos hk]
        simp only [hcmp] at la
        have LA := Lib.hid la
        clear hmin hmx hk la hcmp
        go_wp2
        refine wp_region_behind (by kernel_rfl) (by kernel_rfl) ?_
        repeat (go_big_quiet_step ((go_at_call 59; exact Calls.behind (LA.out _))))
        refine wpQuiet_nil ?_
        intro w1 hw'
        have hb1 := behind_out hw'
        clear hw'
        have z1 := hb1.size; try simp at z1
        have hq : ∀ b o, b < wr.heap.size → w1.cell? ⟨b, o, none⟩ = wr.cell? ⟨b, o, none⟩ := fun b o h => hb1.cell (p := ⟨b, o, none⟩) h
        have hf : ∀ b o, b < wr.heap.size → w1.frozen? ⟨b, o, none⟩ = wr.frozen? ⟨b, o, none⟩ := fun b o h => hb1.frozen (p := ⟨b, o, none⟩) h
        rw [← hq _ _ hz] at m1 m2
        rw [← hf _ _ hz] at m3 m4
        rw [← hf _ _ (by omega)] at m5 m6
        rw [← hq _ _ (by omega)] at m7 m8
        rw [← hq _ _ zg] at r1 r3
        clear hq hf
        go_wp2
        go_roundw
        case rel =>
          refine ⟨i + 1, r2, by omega, by omega, by go_num, R2, (show _ ∧ _ from ?_), by simp [World.setCell]; omega, (by repeat (first | exact Below.refl _ _ | refine Below.drew ?_ | refine below_drewN ?_ _ | refine Below.trans ?_ (Below.mono (by assumption) (by first | omega | (simp; omega) | (simp; done))) | refine Below.alloc ?_ (by first | omega | (simp; omega) | (simp; done)) _ | refine Below.setCell ?_ (by first | omega | (simp; omega) | (simp; done)) _))⟩
          rw [HMI.out]
          refine ⟨?_, ?_, ?_, ?_, ?_, ?_, ?_, ?_⟩
          · rw [set_cell_other _ (by omega), set_cell_same _ m1]
          · rw [set_cell_same (x := .int .i64 mx.2) _ (by rw [set_cell_other _ (by omega)]; exact m2)]
          · rw [set_frozen, set_frozen]; exact m3
          · rw [set_frozen, set_frozen]; exact m4
          · rw [set_frozen, set_frozen]; exact m5
          · rw [set_frozen, set_frozen]; exact m6
          · rw [set_cell_far _ (by omega), set_cell_far _ (by omega)]; exact m7
          · rw [set_cell_far _ (by omega), set_cell_far _ (by omega)]; exact m8
        case measure => simp [intOf]; omega
      · rw [if_neg hk] at hmin
        have HMI := Lib.hid hmin
        obtain ⟨q, hq, hq0⟩ : ∃ q, cmpI k mx.2 = q ∧ ¬ q < 0 := ⟨_, rfl, by unfold cmpI; split; (· contradiction); (· split <;> omega)⟩
        simp only [hq] at la
        have LA := Lib.hid la
        have hq1 : decide (q < 0) = false := decide_eq_false hq0
        clear hmin hmx hk la hq hq0
        go_wp2
        refine wp_region_behind (by kernel_rfl) (by kernel_rfl) ?_
        repeat (go_big_quiet_step ((go_at_call 59; exact Calls.behind (LA.out _))))
        refine wpQuiet_nil ?_
        intro w1 hw'
        have hb1 := behind_out hw'
        clear hw'
        have z1 := hb1.size; try simp at z1
        have hq : ∀ b o, b < wr.heap.size → w1.cell? ⟨b, o, none⟩ = wr.cell? ⟨b, o, none⟩ := fun b o h => hb1.cell (p := ⟨b, o, none⟩) h
        have hf : ∀ b o, b < wr.heap.size → w1.frozen? ⟨b, o, none⟩ = wr.frozen? ⟨b, o, none⟩ := fun b o h => hb1.frozen (p := ⟨b, o, none⟩) h
        rw [← hq _ _ hz] at m1 m2
        rw [← hf _ _ hz] at m3 m4
        rw [← hf _ _ (by omega)] at m5 m6
        rw [← hq _ _ (by omega)] at m7 m8
        clear hq hf
        go_wp2
        go_roundw
        case rel =>
          refine ⟨i + 1, r2, by omega, by omega, by go_num, R2, (show _ ∧ _ from ?_), by omega, (by repeat (first | exact Below.refl _ _ | refine Below.drew ?_ | refine below_drewN ?_ _ | refine Below.trans ?_ (Below.mono (by assumption) (by first | omega | (simp; omega) | (simp; done))) | refine Below.alloc ?_ (by first | omega | (simp; omega) | (simp; done)) _ | refine Below.setCell ?_ (by first | omega | (simp; omega) | (simp; done)) _))⟩
          rw [HMI.out]
          exact ⟨m1, m2, m3, m4, m5, m6, m7, m8⟩
        case measure => simp [intOf]; omega
    · have ej : i = n := by omega
      have hfin : minL z r = minL z r' := by
        have := HT.out
        rw [ej, HN.out, List.take_length, HFE.out] at this
        rw [List.cons.inj this |>.2]
      obtain ⟨mx, hmx⟩ : ∃ mx, mx = minL z r' := ⟨_, rfl⟩
      rw [← hmx] at m1 m2 hfin
      have HFIN := Lib.hid hfin
      clear hfin hmx
      go_wp2
      have e0 := set_cell_same (.int .i64 mx.1) m7
      have e1 := set_cell_same (w := wr.setCell ⟨w.heap.size, 0, none⟩ (.int .i64 mx.1)) (.int .i64 mx.2) ((set_cell_other _ (by omega)).trans m8)
      have e2 := (set_cell_other (w := wr.setCell ⟨w.heap.size, 0, none⟩ (.int .i64 mx.1)) (g := w.heap.size) (o := 1) (o' := 0) (.int .i64 mx.2) (by omega)).trans e0
      exact bodyPost_ret (v := .agg #[.int .i64 mx.1, .int .i64 mx.2]) (by simp [e0, e1, e2, results, Tryz.results58, go_sem, hz, show w.heap.size < wr.heap.size from by omega]) rfl ⟨by rw [HFIN.out], (by repeat (first | exact Below.refl _ _ | refine Below.drew ?_ | refine below_drewN ?_ _ | refine Below.trans ?_ (Below.mono (by assumption) (by first | omega | (simp; omega) | (simp; done))) | refine Below.alloc ?_ (by first | omega | (simp; omega) | (simp; done)) _ | refine Below.setCell ?_ (by first | omega | (simp; omega) | (simp; done)) _))⟩
end Go.Proofs.YtigginpcokfihaaGreatDoor
