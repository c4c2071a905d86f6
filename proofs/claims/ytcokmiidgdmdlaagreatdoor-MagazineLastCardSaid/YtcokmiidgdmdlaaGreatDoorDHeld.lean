/- Package magazine: Give of anything, Held, Cache by their contracts. -/
import Derived.Test.YtcokmiidgdmdlaaGreatDoorDGiveB
namespace Go.Proofs.YtcokmiidgdmdlaaGreatDoor
open Go.RowKit Go.Maps
set_option linter.unusedSimpArgs false
set_option linter.unusedVariables false
attribute [local go_sem ↓] Go.wp_at_zero Go.wp_at_succ

section
variable {X Y S F : List Nat} {B : Nat} {ev : Nat → Addr} {w w' : World} {pd pc pz gh e : Nat} {mn lw hi : Int} {O : List (List Int)} {v vp vp' : Value} {A : SA} {V : HV} {U U' : List Value} {d : De} {c : Ca} {P' : List (List Ob)}
theorem dgive_any (k : Int) (o : Ob) (hE : ErrS B ev w) (h : CD B w X pd pc pz gh mn lw hi O e v A V vp U d) (hF : Hid (∀ f ∈ F, f ∈ X ∧ f ∉ xd pc v A d.c.L pd gh vp)) (hI : InvD e d) (o1 : -9223372036854775808 ≤ o.2) (o2 : o.2 ≤ 9223372036854775807) :
    Calls Tryz.prog 34 #[.pointer (some ⟨pd, 0, none⟩), .int .i64 k, .agg #[.int .i64 o.1, .int .i64 o.2]] w (DgvPost B ev pd pc pz gh mn lw hi O e X F w (giveD e d k o)) := by
  cases hh : handD d k with
  | none => exact dgive_bad k o hE h hF hh
  | some g =>
    obtain ⟨k0, h1, h2, h3⟩ := handD_some hh
    obtain ⟨kn, hkn⟩ : ∃ kn, kn = k.toNat := ⟨_, rfl⟩
    rw [← hkn] at h1 h3
    subst h3
    have h4 := (hI.h4 g (List.mem_of_getElem? h1))
    obtain ⟨g1, g2⟩ := g
    simp only at h4
    cases ho : outD e d o with
    | false => exact dgive_stale kn o hE h hF hI o1 o2 h1 ho
    | true =>
      by_cases q : g1.length = 4
      · cases g2 with
        | nil => exact dgive_2 kn o h hF hI o1 o2 h1 q ho
        | cons a r => exact dgive_3 kn o hE.size h hF hI o1 o2 h1 q (by simp) ho
      · exact dgive_1 kn o h hF hI o1 o2 h1 (by omega) ho
/-- how many objects hands hold -/
def handN (H : List Hd) : Nat := (H.map fun h => h.1.length + h.2.length).sum
theorem handN_len (H : List Hd) : handN H = (heldH H).length := by
  unfold handN heldH
  rw [List.length_flatMap]
  simp
theorem handN_snoc {H : List Hd} {i : Nat} {h : Hd} (hs : H[i]? = some h) : handN (H.take (i + 1)) = handN (H.take i) + (h.1.length + h.2.length) := by
  rw [List.take_add_one, hs]
  unfold handN
  simp
set_option maxHeartbeats 4000000 in
set_option maxRecDepth 100000 in
theorem dheld_ok (h : CD B w X pd pc pz gh mn lw hi O e v A V vp U d) (hI : InvD e d) :
    Calls Tryz.prog 84 #[.pointer (some ⟨pd, 0, none⟩)] w fun r w' => r = .returned (.tuple #[.int .i64 (handN d.H), .int .i64 ((d.P.length * 4 : Nat) : Int)]) ∧ Below w.heap.size w w' := by
  have c1 := h.de.d.c 1 _ rfl; have cl := h.de.d.lt
  have HH := Lib.hid h; have HI := Lib.hid hI
  have hH4 := hI.hl
  have ALL : Hid (d.H.take d.H.length = d.H) := by show _ = _; simp
  obtain ⟨n, hn⟩ : ∃ n, n = d.H.length := ⟨_, rfl⟩
  have EN := Lib.hid hn
  rw [← hn] at c1 hH4 ALL
  have pl : Hid (d.P.length ≤ 65536) := by
    show d.P.length ≤ 65536
    have hh := (held_len hI).1
    have h2 := obs_few hI.c
    omega
  have BD : Hid (∀ i, i ≤ n → handN (d.H.take i) ≤ 8 * i) := by
    intro i
    induction i with
    | zero => intro _; simp [handN]
    | succ i ih =>
      intro hi
      obtain ⟨g, hg⟩ : ∃ g, d.H[i]? = some g := ⟨d.H[i]'(by omega), List.getElem?_eq_getElem _⟩
      rw [handN_snoc hg]
      have := ih (by omega)
      have h4 := hI.h4 g (List.mem_of_getElem? hg)
      omega
  clear h hI hn
  go_enter Tryz.func84, Tryz.ntmps84
  go_wp2_with fail
  go_loopw [2, 11] (fun tv iv wr => ∃ i : Nat, i ≤ n ∧ iv = .int .i64 i ∧ tv = .int .i64 (handN (d.H.take i)) ∧ Below w.heap.size w wr) (fun _ iv _ => n - (intOf iv).toNat)
  case atStart => exact ⟨0, by omega, by go_num, by simp [handN], Below.refl _ _⟩
  case round =>
    obtain ⟨i, hile, rfl, rfl, hbel⟩ := hrel
    have zr := hbel.size
    by_cases hin : i < n
    · obtain ⟨g, hg⟩ : ∃ g, d.H[i]? = some g := ⟨d.H[i]'(by rw [← EN.out]; exact hin), List.getElem?_eq_getElem _⟩
      obtain ⟨⟨pa, pb⟩, hp, r1, r2, g0, g1, _, _, gl⟩ := (HH.out.below hbel).hand hg
      obtain ⟨qa, ca, e1, _⟩ := r1.isSlice
      obtain ⟨qb, cb, e2, _⟩ := r2.isSlice
      simp only at e1 e2 g0 g1
      subst e1 e2
      have l4 := HI.out.h4 g (List.mem_of_getElem? hg)
      have SN := Lib.hid (handN_snoc hg)
      have bd := BD.out i (by omega)
      have j1 : (i : Int) < (n : Int) := by omega
      generalize g.1.length = na at *
      generalize g.2.length = nb at *
      generalize handN (d.H.take i) = t at *
      clear r1 r2 hp hg
      go_wp2
      go_round
      case rel => exact ⟨i + 1, by omega, by go_num, by rw [SN.out]; go_num, hbel.trans (by repeat (first | exact Below.refl _ _ | refine Below.drew ?_ | refine below_drewN ?_ _ | refine Below.trans ?_ (Below.mono (by assumption) (by first | omega | (simp; omega) | (simp; done))) | refine Below.alloc ?_ (by first | omega | (simp; omega) | (simp; done)) _ | refine Below.setCell ?_ (by first | omega | (simp; omega) | (simp; done)) _))⟩
      case measure => simp [intOf]; omega
    · obtain rfl : i = n := by omega
      rw [ALL.out]
      obtain ⟨q, k, evp, k1, k2, _⟩ := (HH.out.below hbel).de.pile
      have c2 := (HH.out.below hbel).de.d.c 2 _ rfl; have cl2 := (HH.out.below hbel).de.d.lt
      rw [evp] at c2
      have pl' := pl.out
      obtain ⟨np, hnp⟩ : ∃ np, np = d.P.length := ⟨_, rfl⟩
      have HNP := Lib.hid hnp
      rw [← hnp] at c2 pl'
      clear hnp
      have hw1 : IntKind.i64.wrap ((np : Int) * 4) = (np : Int) * 4 := IntWalk.i64_in _ (by omega)
      clear evp k1 k2
      go_wp2_with fail
      go_quiet (fail)
      go_wp2
      go_ret2
      exact ⟨by rw [← HNP.out]; simp, hbel.trans (by repeat (first | exact Below.refl _ _ | refine Below.drew ?_ | refine below_drewN ?_ _ | refine Below.trans ?_ (Below.mono (by assumption) (by first | omega | (simp; omega) | (simp; done))) | refine Below.alloc ?_ (by first | omega | (simp; omega) | (simp; done)) _ | refine Below.setCell ?_ (by first | omega | (simp; omega) | (simp; done)) _))⟩
end
end Go.Proofs.YtcokmiidgdmdlaaGreatDoor
