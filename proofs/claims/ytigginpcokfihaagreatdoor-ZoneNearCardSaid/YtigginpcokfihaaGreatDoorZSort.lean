/- slices.SortStableFunc as package zone's Order calls it: nodes by how far they are, of as far ones by number. -/
import Derived.Test.YtigginpcokfihaaGreatDoorZChk
import Derived.Test.YtigginpcokfihaaGreatDoorQuiet
import Derived.Test.YtigginpcokfihaaGreatDoorBudC
import Derived.Deep.QuietTactic
import Derived.RegionTactic
import Derived.ChangeAlike
import Derived.BigRegion
namespace Go.Proofs.YtigginpcokfihaaGreatDoor
open Go.RowKit
set_option linter.unusedSimpArgs false
set_option linter.unusedVariables false

def keyL (l : List Int) (x : Int) : Int := l.getD x.toNat 0
def lexL (l : List Int) (x y : Int) : Prop := keyL l x < keyL l y ∨ (keyL l x = keyL l y ∧ x < y)
/-- S: the numbers below i, by their keys, as great ones by number -/
structure OrdTo (l : List Int) (i : Nat) (S : List Int) : Prop where
  pw : S.Pairwise (lexL l)
  mem : ∀ x : Int, x ∈ S ↔ 0 ≤ x ∧ x < i
  len : S.length = i
theorem OrdTo.one (l : List Int) : OrdTo l 1 [0] := ⟨by simp, fun x => by simp; omega, rfl⟩
theorem OrdTo.ins {l : List Int} {i : Nat} {A C : List Int} (h : OrdTo l i (A ++ C)) (ha : ∀ a ∈ A, keyL l a ≤ keyL l i) (hc : ∀ c ∈ C, keyL l i < keyL l c) : OrdTo l (i + 1) (A ++ (i : Int) :: C) := by
  obtain ⟨p1, p2, p3⟩ := List.pairwise_append.1 h.pw
  refine ⟨List.pairwise_append.2 ⟨p1, List.pairwise_cons.2 ⟨fun c hcc => .inl (hc c hcc), p2⟩, fun a haa x hx => ?_⟩, fun x => ?_, ?_⟩
  · rcases List.mem_cons.1 hx with rfl | hx
    · have h1 := ha a haa
      have h2 := (h.mem a).1 (List.mem_append_left _ haa)
      rcases Int.lt_or_eq_of_le h1 with q | q
      · exact .inl q
      · exact .inr ⟨q, h2.2⟩
    · exact p3 a haa x hx
  · have := h.mem x
    simp only [List.mem_append, List.mem_cons] at this ⊢
    constructor
    · rintro (q | rfl | q)
      · have := this.1 (.inl q); omega
      · omega
      · have := this.1 (.inr q); omega
    · rintro ⟨q1, q2⟩
      by_cases e : x = (i : Int)
      · exact .inr (.inl e)
      · rcases this.2 ⟨q1, by omega⟩ with q | q
        · exact .inl q
        · exact .inr (.inr q)
  · have := h.len
    simp at this ⊢
    omega
/-- where the last one of A is not behind, none is -/
theorem ord_last {l : List Int} {i : Nat} {A C : List Int} {y : Int} (h : OrdTo l i ((A ++ [y]) ++ C)) (hy : keyL l y ≤ keyL l i) : ∀ a ∈ A ++ [y], keyL l a ≤ keyL l i := by
  intro a ha
  rcases List.mem_append.1 ha with q | q
  · have p := (List.pairwise_append.1 (List.pairwise_append.1 h.pw).1).2.2 a q y (by simp)
    rcases p with p | p <;> omega
  · simp at q; subst q; exact hy
def restN (n i : Nat) : List Int := (List.range' i (n - i)).map fun (j : Nat) => (j : Int)
theorem restN_cons {n i : Nat} (h : i < n) : restN n i = (i : Int) :: restN n (i + 1) := by
  unfold restN
  obtain ⟨d, hd⟩ : ∃ d, n - i = d + 1 := ⟨n - i - 1, by omega⟩
  rw [hd, show n - (i + 1) = d by omega, List.range'_succ]
  rfl
theorem restN_nil (n : Nat) : restN n n = [] := by unfold restN; simp
theorem restN_length (n i : Nat) : (restN n i).length = n - i := by unfold restN; simp
theorem snoc_of {A : List Int} {j : Nat} (h : A.length = j + 1) : ∃ A' y, A = A' ++ [y] ∧ A'.length = j := by
  have hne : A ≠ [] := by intro e; rw [e] at h; simp at h
  refine ⟨A.dropLast, A.getLast hne, (List.dropLast_concat_getLast hne).symm, by simp [h]⟩
theorem get_mid {α : Type} (A : List α) (x : α) (C : List α) : (A ++ x :: C)[A.length]? = some x := by simp

/-- what the comparison reads: a config's box, the node's box, the node's row of distances -/
structure KeyBox (w : World) (bc bn : Nat) (l : List Int) (G : List Nat) : Prop where
  at_ : ∃ (gN oN m k v gl ol kl : Nat), w.cell? ⟨bc, 1, none⟩ = some (.slice (some ⟨gN, oN, none⟩) m k) ∧ w.cell? ⟨bn, 0, none⟩ = some (.int .i64 v) ∧ v < m ∧ w.cell? ⟨gN, oN + v, none⟩ = some (.slice (some ⟨gl, ol, none⟩) l.length kl) ∧
    (∀ (j : Nat) (x : Int), l[j]? = some x → w.cell? ⟨gl, ol + j, none⟩ = some (.int .i64 x)) ∧ bc < w.heap.size ∧ bn < w.heap.size ∧ gN < w.heap.size ∧ gl < w.heap.size ∧ bc ∉ G ∧ bn ∉ G ∧ gN ∉ G ∧ gl ∉ G ∧ m ≤ maxLen ∧ l.length ≤ maxLen
theorem KeyBox.keep {S G : List Nat} {w w' : World} {bc bn : Nat} {l : List Int} (h : KeyBox w bc bn l G) (k : Keep S w w') (hs : ∀ s ∈ S, s ∈ G ∨ w.heap.size ≤ s) : KeyBox w' bc bn l G := by
  obtain ⟨gN, oN, m, kk, v, gl, ol, kl, h1, h2, h3, h4, h5, l1, l2, l3, l4, n1, n2, n3, n4, m1⟩ := h.at_
  have ns : ∀ g, g < w.heap.size → g ∉ G → g ∉ S := fun g hg hn q => by rcases hs g q with r | r; (· exact hn r); (· omega)
  have z := k.size
  exact ⟨gN, oN, m, kk, v, gl, ol, kl, (k.cell l1 (ns _ l1 n1)).trans h1, (k.cell l2 (ns _ l2 n2)).trans h2, h3, (k.cell l3 (ns _ l3 n3)).trans h4, fun j x hj => (k.cell l4 (ns _ l4 n4)).trans (h5 j x hj), by omega, by omega, by omega, by omega, n1, n2, n3, n4, m1⟩
theorem KeyBox.below {G : List Nat} {w w' : World} {bc bn : Nat} {l : List Int} (h : KeyBox w bc bn l G) (k : Below w.heap.size w w') : KeyBox w' bc bn l G := h.keep (Keep.of (S := []) k) (fun _ q => by cases q)

set_option maxHeartbeats 2000000 in
theorem order1_any (x y : Nat) (bc bn : Nat) (l : List Int) (G : List Nat) (w : World) (h : KeyBox w bc bn l G) (hx : x < l.length) (hy : y < l.length) :
    Calls Tryz.prog 35 #[.int .i64 x, .int .i64 y, .pointer (some ⟨bc, 0, none⟩), .pointer (some ⟨bn, 0, none⟩)] w fun e w' => e = .returned (.int .i64 (cmpI (keyL l x) (keyL l y))) ∧ Below w.heap.size w w' := by
  obtain ⟨gN, oN, m, kk, v, gl, ol, kl, h1, h2, h3, h4, h5, l1, l2, l3, l4, n1, n2, n3, n4, m1, m2⟩ := h.at_
  unfold maxLen at m1 m2
  have c1 := h5 x _ (List.getElem?_eq_getElem hx)
  have c2 := h5 y _ (List.getElem?_eq_getElem hy)
  have e1 : l[x] = keyL l x := by unfold keyL; simp [hx]
  have e2 : l[y] = keyL l y := by unfold keyL; simp [hy]
  rw [e1] at c1
  rw [e2] at c2
  clear h5 e1 e2 h
  have v0 : (0 : Int) ≤ v := by omega
  have v1 : (v : Int) < m := by omega
  have x0 : (0 : Int) ≤ x := by omega
  have x1 : (x : Int) < l.length := by omega
  have y0 : (0 : Int) ≤ y := by omega
  have y1 : (y : Int) < l.length := by omega
  go_enter Tryz.func35, Tryz.ntmps35
  go_wp2_with fail
  go_quiet ((go_at_call 36; exact Calls.quiet_of_same ((compare_int _ _ _).mono fun e w' ⟨a, b⟩ => ⟨a, b.symm⟩)))
  go_wp2
  go_ret
  exact ⟨rfl, below_drewN (Below.refl _ _) _⟩

theorem swap_list (A R : List Int) (y x : Int) (k : Nat) (hk : A.length = k) : ((ints (A ++ y :: x :: R)).set (k + 1) (.int .i64 y)).set k (.int .i64 x) = ints (A ++ x :: y :: R) := by
  subst hk
  unfold ints
  simp [List.set_append]
theorem ints_at {A R : List Int} {x : Int} {k : Nat} (hk : A.length = k) : (ints (A ++ x :: R))[k]? = some (.int .i64 x) := ints_get (by subst hk; simp)
def ordF (bc bn : Nat) : Value := .func (.func 35) #[] #[.pointer (some ⟨bc, 0, none⟩), .pointer (some ⟨bn, 0, none⟩)]
theorem LocN.drewN {w : World} {b : Nat} {us : List Value} (h : LocN w b us) (m : Nat) : LocN (w.drewN m) b us := h.keep ((Keep.refl [] _).drewN m) (by simp)
theorem LocN.drew {w : World} {b : Nat} {us : List Value} (h : LocN w b us) : LocN w.drew b us := h.keep ((Keep.refl [] _).drew) (by simp)

set_option maxHeartbeats 4000000 in
set_option maxRecDepth 100000 in
theorem insert_ok (bc bn g cap : Nat) (l : List Int) (n : Nat) (w : World) (h : KeyBox w bc bn l [g]) (hl : l.length = n) (n1 : 1 ≤ n) (n4 : n ≤ 4) (hcap : n ≤ cap) (hD : LocN w g (ints (restN n 0))) :
    Calls Tryz.prog 92 #[.slice (some ⟨g, 0, none⟩) n cap, .int .i64 0, .int .i64 n, ordF bc bn] w fun e w' => ∃ D, e = .returned (.tuple #[]) ∧ OrdTo l n D ∧ LocN w' g (ints D) ∧ Keep [g] w w' := by
  have HK := Lib.hid h; have HD := Lib.hid hD; have HL := Lib.hid hl
  clear h hD hl
  unfold ordF
  go_enter Tryz.func92, Tryz.ntmps92
  go_wp2_with fail
  go_loopw [8] (fun iv wr => ∃ (i : Nat) (S : List Int), 1 ≤ i ∧ i ≤ n ∧ iv = .int .i64 i ∧ Hid (OrdTo l i S) ∧ Hid (LocN wr g (ints (S ++ restN n i))) ∧ Keep [g] w wr) (fun iv _ => n - (intOf iv).toNat)
  case atStart => exact ⟨1, [0], Nat.le_refl _, n1, by go_num, OrdTo.one l, (show LocN _ _ _ by have := HD.out; rwa [restN_cons (by omega)] at this), Keep.refl _ _⟩
  case round =>
    obtain ⟨i, S, i1, i2, rfl, OS, LS, hk⟩ := hrel
    by_cases hin : i < n
    · have LS2 : Hid (LocN wr g (ints (S ++ (i : Int) :: ([] ++ restN n (i + 1))))) := by
        have := LS.out
        rwa [restN_cons hin] at this
      clear LS HD
      obtain ⟨wo, rfl⟩ : ∃ wo : World, wo = wr := ⟨_, rfl⟩
      go_wp2_with fail
      go_loopw [9] (fun jv wq => ∃ (j : Nat) (A C : List Int), j ≤ i ∧ jv = .int .i64 j ∧ Hid (A.length = j) ∧ Hid (OrdTo l i (A ++ C)) ∧ Hid (∀ c ∈ C, keyL l i < keyL l c) ∧ Hid (LocN wq g (ints (A ++ (i : Int) :: (C ++ restN n (i + 1))))) ∧ Keep [g] w wq) (fun jv _ => (intOf jv).toNat)
      case atStart => exact ⟨i, S, [], Nat.le_refl _, rfl, OS.out.len, (show OrdTo _ _ _ by rw [List.append_nil]; exact OS.out), (fun c hc => by simp at hc), LS2, hk⟩
      case round =>
        clear LS2 OS hk
        obtain ⟨j, A, C, hji, rfl, hA, OS, hC, LS, hk⟩ := hrel
        have zr := hk.size
        have lg := LS.out.lt
        rcases j with _ | k
        · have hAn : A = [] := List.length_eq_zero_iff.1 hA.out
          have OS2 : Hid (OrdTo l (i + 1) (([] : List Int) ++ (i : Int) :: C)) := OrdTo.ins (by rw [hAn] at OS; exact OS.out) (fun a ha => by simp at ha) hC.out
          have LS3 : Hid (∀ w', Keep [] wr w' → LocN w' g (ints ((([] : List Int) ++ (i : Int) :: C) ++ restN n (i + 1)))) := fun w' k => by
            have := LS.out
            rw [hAn] at this
            simpa using this.keep k (by simp)
          clear hAn OS LS hC
          go_wp2_with fail
          go_quiet (fail)
          go_wp2
          go_roundw
          case rel => exact ⟨i + 1, _, by omega, by omega, by go_num, OS2, LS3.out _ ((Keep.refl [] _).drewN _), (hk.then ((Keep.refl _ _).drewN _))⟩
          case measure => simp [intOf]; omega
        · obtain ⟨A', y, rfl, hA'⟩ := snoc_of hA.out
          have my := (OS.out.mem y).1 (by simp)
          obtain ⟨yn, rfl⟩ : ∃ yn : Nat, y = yn := ⟨y.toNat, by omega⟩
          have OC : Hid (∀ w', Below wr.heap.size wr w' → Calls Tryz.prog 35 #[.int .i64 i, .int .i64 yn, .pointer (some ⟨bc, 0, none⟩), .pointer (some ⟨bn, 0, none⟩)] w' fun e w'' => e = .returned (.int .i64 (cmpI (keyL l i) (keyL l yn))) ∧ Below w'.heap.size w' w'') := fun w' hb => order1_any i yn bc bn l [g] w' ((HK.out.keep hk (fun s hs => .inl hs)).below hb) (by rw [HL.out]; omega) (by rw [HL.out]; omega)
          have ca : wr.cell? ⟨g, k + 1, none⟩ = some (.int .i64 i) := LS.out.c _ _ (ints_at hA.out)
          have cb : wr.cell? ⟨g, k, none⟩ = some (.int .i64 yn) := by
            have := LS.out.c k (.int .i64 yn) (by
              rw [List.append_assoc]
              exact ints_at hA')
            exact this
          have t1 : (0 : Int) ≤ ((k + 1 : Nat) : Int) := by omega
          have t2 : ((k + 1 : Nat) : Int) < n := by omega
          have t3 : ((k + 1 : Nat) : Int) - 1 = k := by omega
          by_cases hlt : keyL l i < keyL l yn
          · have hcm : cmpI (keyL l i) (keyL l yn) = -1 := by unfold cmpI; rw [if_pos hlt]
            rw [hcm] at OC
            have HLT := Lib.hid hlt
            clear hcm hlt
            go_wp2_with fail
            refine wp_region_behind (by kernel_rfl) (by kernel_rfl) ?_
            repeat (go_big_quiet_step ((go_at_call 35; exact Calls.behind (OC.out _ (Behind.h _)))))
            refine wpQuiet_nil ?_
            intro w4 hw'
            have hb4 := behind_out hw'
            clear hw'
            have z4 := hb4.size; try simp at z4
            have L4 := LS.out.go hb4
            have d1 := L4.c _ _ (ints_at hA.out)
            have d2 : w4.cell? ⟨g, k, none⟩ = some (.int .i64 yn) := L4.c k (.int .i64 yn) (by rw [List.append_assoc]; exact ints_at hA')
            have d3 := L4.lt
            have d4 : w4.frozen? ⟨g, k + 1, none⟩ = false := L4.f _ (by rw [ints_length]; have := hA.out; simp at this ⊢; omega)
            have d5 : w4.frozen? ⟨g, k, none⟩ = false := L4.f _ (by rw [ints_length]; have := hA.out; simp at this ⊢; omega)
            have L5 : Hid (LocN ((w4.setCell ⟨g, k + 1, none⟩ (.int .i64 yn)).setCell ⟨g, k, none⟩ (.int .i64 i)).drew g (ints (A' ++ (i : Int) :: (((yn : Int) :: C) ++ restN n (i + 1))))) := by
              have := (L4.store (k + 1) (.int .i64 yn) (by rw [ints_length]; have := hA.out; simp at this ⊢; omega)).store k (.int .i64 i) (by rw [List.length_set, ints_length]; have := hA.out; simp at this ⊢; omega)
              rw [List.append_assoc, List.singleton_append, swap_list A' _ _ _ k hA'] at this
              exact this.drew
            have HB4 := Lib.hid hb4
            have k5 : Keep [g] w ((w4.setCell ⟨g, k + 1, none⟩ (.int .i64 yn)).setCell ⟨g, k, none⟩ (.int .i64 i)).drew := (((hk.step hb4).setCell (.inl (by simp)) _).setCell (.inl (by simp)) _).drew
            have OS2 : Hid (OrdTo l i (A' ++ ((yn : Int) :: C))) := by have := OS.out; rwa [List.append_assoc, List.singleton_append] at this
            have hC2 : Hid (∀ c ∈ ((yn : Int) :: C), keyL l i < keyL l c) := fun c hc => by
              rcases List.mem_cons.1 hc with rfl | hc
              · exact HLT.out
              · exact hC.out c hc
            clear L4 ca cb hb4
            go_wp2
            go_region
            all_goals
              go_wp2
              go_roundw
              case rel => exact ⟨k, A', _, by omega, by first | rfl | go_num, hA', OS2, hC2, L5, k5⟩
              case measure => simp [intOf]
          · obtain ⟨r, hr0, hcm⟩ : ∃ r : Int, 0 ≤ r ∧ cmpI (keyL l i) (keyL l yn) = r := ⟨cmpI (keyL l i) (keyL l yn), by unfold cmpI; rw [if_neg hlt]; split <;> omega, rfl⟩
            rw [hcm] at OC
            have hrz : ¬ r < 0 := by omega
            have hOa := ord_last OS.out (by omega)
            have OS2 : Hid (OrdTo l (i + 1) ((A' ++ [(yn : Int)]) ++ (i : Int) :: C)) := OS.out.ins hOa hC.out
            have LS3 : Hid (∀ w', Keep [] wr w' → LocN w' g (ints (((A' ++ [(yn : Int)]) ++ (i : Int) :: C) ++ restN n (i + 1)))) := fun w' k => by
              have := LS.out
              simpa using this.keep k (by simp)
            clear hcm hlt hOa
            go_wp2_with fail
            refine wp_region_behind (by kernel_rfl) (by kernel_rfl) ?_
            repeat (go_big_quiet_step ((go_at_call 35; exact Calls.behind (OC.out _ (Behind.h _)))))
            refine wpQuiet_nil ?_
            intro w4 hw'
            have hb4 := behind_out hw'
            clear hw'
            have z4 := hb4.size; try simp at z4
            have L6 := Lib.hid (LS3.out w4 (Keep.of hb4))
            have k6 : Keep [g] w w4 := hk.step hb4
            clear hb4 LS3
            go_wp2
            go_roundw
            case rel => exact ⟨i + 1, _, by omega, by omega, by go_num, OS2, L6, k6⟩
            case measure => simp [intOf]; omega
    · have ei : i = n := by omega
      subst ei
      go_wp2
      go_end0
      exact ⟨S, rfl, OS.out, (by have := LS.out; rwa [restN_nil, List.append_nil] at this), hk⟩

set_option maxHeartbeats 1000000 in
theorem stable_ok (bc bn g cap : Nat) (l : List Int) (n : Nat) (w : World) (h : KeyBox w bc bn l [g]) (hl : l.length = n) (n1 : 1 ≤ n) (n4 : n ≤ 4) (hcap : n ≤ cap) (hD : LocN w g (ints (restN n 0))) :
    Calls Tryz.prog 64 #[.slice (some ⟨g, 0, none⟩) n cap, .int .i64 n, ordF bc bn] w fun e w' => ∃ D, e = .returned (.tuple #[]) ∧ OrdTo l n D ∧ LocN w' g (ints D) ∧ Keep [g] w w' := by
  have I := Lib.hid (insert_ok bc bn g cap l n w h hl n1 n4 hcap hD)
  clear h hD hl
  have a1 : ¬ (20 : Int) ≤ (n : Int) := by omega
  have a2 : ¬ (20 : Int) < (n : Int) := by omega
  unfold ordF at *
  go_enter Tryz.func64, Tryz.ntmps64
  go_wp2_with fail
  go_loop [7, 8] (fun a b => a = .int .i64 0 ∧ b = .int .i64 20) (fun _ _ => 0)
  case atStart => exact ⟨rfl, rfl⟩
  case round =>
    obtain ⟨rfl, rfl⟩ := hrel
    go_wp2_with fail
    refine I.out.mono ?_
    rintro e w1 ⟨D, rfl, hO, hL, hk⟩
    have HO := Lib.hid hO; have HL := Lib.hid hL
    clear hO hL I
    go_wp2_with fail
    go_loop [6] (fun a => a = .int .i64 20) (fun _ => 0)
    case atStart => exact rfl
    case round =>
      subst hrel
      go_wp2
      go_end0
      first | exact ⟨rfl, D, HO.out, HL.out, hk⟩ | exact ⟨D, rfl, HO.out, HL.out, hk⟩

set_option maxHeartbeats 1000000 in
theorem sortStable_ok (bc bn g cap : Nat) (l : List Int) (n : Nat) (w : World) (h : KeyBox w bc bn l [g]) (hl : l.length = n) (n1 : 1 ≤ n) (n4 : n ≤ 4) (hcap : n ≤ cap) (hD : LocN w g (ints (restN n 0))) :
    Calls Tryz.prog 34 #[.slice (some ⟨g, 0, none⟩) n cap, ordF bc bn] w fun e w' => ∃ D, e = .returned (.tuple #[]) ∧ OrdTo l n D ∧ LocN w' g (ints D) ∧ Keep [g] w w' := by
  have I := Lib.hid (stable_ok bc bn g cap l n w h hl n1 n4 hcap hD)
  clear h hD hl
  unfold ordF at *
  go_enter Tryz.func34, Tryz.ntmps34
  go_wp2_with fail
  refine I.out.mono ?_
  rintro e w1 ⟨D, rfl, hO, hL, hk⟩
  have HO := Lib.hid hO; have HL := Lib.hid hL
  clear hO hL I
  go_wp2
  go_end0
  first | exact ⟨rfl, D, HO.out, HL.out, hk⟩ | exact ⟨D, rfl, HO.out, HL.out, hk⟩
end Go.Proofs.YtigginpcokfihaaGreatDoor
