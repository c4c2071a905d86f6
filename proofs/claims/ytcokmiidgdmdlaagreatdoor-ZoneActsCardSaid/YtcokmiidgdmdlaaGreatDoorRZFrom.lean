/- The document's NodesFrom: nodes by how far they are. The document's ConfigError by its contract. -/
import Derived.Test.YtcokmiidgdmdlaaGreatDoorZCfg
import Derived.Test.YtcokmiidgdmdlaaGreatDoorMem
import Derived.Test.YtcokmiidgdmdlaaGreatDoorZTake
import Derived.Test.YtcokmiidgdmdlaaGreatDoorZLaw
namespace Go.Proofs.YtcokmiidgdmdlaaGreatDoor
open Go.RowKit
set_option linter.unusedSimpArgs false
set_option linter.unusedVariables false

theorem lexL_asym {l : List Int} {x y : Int} (h : lexL l x y) (k : lexL l y x) : False := by
  unfold lexL at h k; omega
theorem pw_unique {l : List Int} : ∀ {S D : List Int}, S.Pairwise (lexL l) → D.Pairwise (lexL l) → (∀ x, x ∈ S ↔ x ∈ D) → S = D
  | [], [], _, _, _ => rfl
  | [], b :: D, _, _, h => by have := (h b).2 (by simp); cases this
  | a :: S, [], _, _, h => by have := (h a).1 (by simp); cases this
  | a :: S, b :: D, hS, hD, h => by
    obtain ⟨s1, s2⟩ := List.pairwise_cons.1 hS
    obtain ⟨d1, d2⟩ := List.pairwise_cons.1 hD
    have e : a = b := by
      rcases List.mem_cons.1 ((h a).1 (by simp)) with q | q
      · exact q
      · rcases List.mem_cons.1 ((h b).2 (by simp)) with r | r
        · exact r.symm
        · exact (lexL_asym (d1 a q) (s1 b r)).elim
    subst e
    rw [pw_unique s2 d2 (fun x => ?_)]
    constructor
    · intro q
      rcases List.mem_cons.1 ((h x).1 (List.mem_cons_of_mem _ q)) with r | r
      · subst r; exact (lexL_asym (s1 x q) (s1 x q)).elim
      · exact r
    · intro q
      rcases List.mem_cons.1 ((h x).2 (List.mem_cons_of_mem _ q)) with r | r
      · subst r; exact (lexL_asym (d1 x q) (d1 x q)).elim
      · exact r
/-- the nodes nearer than 'far', and of as far ones those below i, in order -/
structure NF (l : List Int) (n : Nat) (far : Int) (i : Nat) (S : List Int) : Prop where
  pw : S.Pairwise (lexL l)
  mem : ∀ x : Int, x ∈ S ↔ (0 ≤ x ∧ x < n) ∧ (keyL l x < far ∨ (keyL l x = far ∧ x < i))
theorem NF.start {l : List Int} {n : Nat} (h : ∀ x : Int, 0 ≤ x → x < n → 0 ≤ keyL l x) : NF l n 0 0 [] :=
  ⟨List.Pairwise.nil, fun x => by simp; intro a b; have := h x a b; omega⟩
theorem NF.hit {l : List Int} {n : Nat} {far : Int} {i : Nat} {S : List Int} (h : NF l n far i S) (hi : i < n) (hk : keyL l i = far) : NF l n far (i + 1) (S ++ [(i : Int)]) := by
  refine ⟨List.pairwise_append.2 ⟨h.pw, by simp, fun a ha b hb => ?_⟩, fun x => ?_⟩
  · simp at hb; subst hb
    have := (h.mem a).1 ha
    unfold lexL; omega
  · rw [List.mem_append, h.mem x]
    simp
    constructor
    · rintro (⟨a, b | b⟩ | rfl)
      · exact ⟨a, .inl b⟩
      · exact ⟨a, .inr ⟨b.1, by omega⟩⟩
      · exact ⟨⟨by omega, by omega⟩, .inr ⟨hk, by omega⟩⟩
    · rintro ⟨a, b | b⟩
      · exact .inl ⟨a, .inl b⟩
      · by_cases e : x = i
        · exact .inr e
        · exact .inl ⟨a, .inr ⟨b.1, by omega⟩⟩
theorem NF.miss {l : List Int} {n : Nat} {far : Int} {i : Nat} {S : List Int} (h : NF l n far i S) (hk : keyL l i ≠ far) : NF l n far (i + 1) S := by
  refine ⟨h.pw, fun x => ?_⟩
  rw [h.mem x]
  constructor
  · rintro ⟨a, b | b⟩
    · exact ⟨a, .inl b⟩
    · exact ⟨a, .inr ⟨b.1, by omega⟩⟩
  · rintro ⟨a, b | b⟩
    · exact ⟨a, .inl b⟩
    · refine ⟨a, .inr ⟨b.1, ?_⟩⟩
      by_cases e : x = i
      · subst e; exact absurd b.1 hk
      · omega
theorem NF.next {l : List Int} {n : Nat} {far : Int} {S : List Int} (h : NF l n far n S) : NF l n (far + 1) 0 S := by
  refine ⟨h.pw, fun x => ?_⟩
  rw [h.mem x]
  constructor
  · rintro ⟨a, b | b⟩
    · exact ⟨a, .inl (by omega)⟩
    · exact ⟨a, .inl (by omega)⟩
  · rintro ⟨a, b | b⟩
    · refine ⟨a, ?_⟩
      by_cases e : keyL l x < far
      · exact .inl e
      · exact .inr ⟨by omega, a.2⟩
    · omega
theorem nodup_len : ∀ (n : Nat) (S : List Int), S.Nodup → (∀ x ∈ S, 0 ≤ x ∧ x < n) → S.length ≤ n
  | 0, S, _, h => by
    cases S with
    | nil => simp
    | cons a S => have := h a (by simp); omega
  | n + 1, S, hn, h => by
    by_cases e : (n : Int) ∈ S
    · have l1 := List.length_erase_of_mem e
      have := nodup_len n (S.erase (n : Int)) (hn.erase _) (fun x hx => by
        have hm := (List.Nodup.mem_erase_iff hn).1 hx
        have := h x hm.2
        have hne := hm.1
        omega)
      omega
    · have := nodup_len n S hn (fun x hx => by
        have q := h x hx
        have hne : x ≠ n := fun r => e (r ▸ hx)
        omega)
      omega
theorem NF.len {l : List Int} {n : Nat} {far : Int} {i : Nat} {S : List Int} (h : NF l n far i S) : S.length ≤ n :=
  nodup_len n S (h.pw.imp (fun {a b} q e => by subst e; exact lexL_asym q q)) (fun x hx => ((h.mem x).1 hx).1)
/-- what NodesFrom comes to -/
def FromPost (D : List Int) (w : World) (e : Ending) (w' : World) : Prop :=
  ∃ q k, e = .returned (.slice q D.length k) ∧ w'.ownsRow w.heap.size 3 1 (.slice q D.length k) D.length (ints D) ∧ Below w.heap.size w w'

set_option maxHeartbeats 4000000 in
set_option maxRecDepth 100000 in
theorem nodesFrom_ok (vP vN : Value) (P : List Int) (N : List (List Int)) (mn lw hi : Int) (v : Nat) (l D : List Int) (w : World) (h : Cfg [] w vP vN P N) (hv : N[v]? = some l) (hl : l.length = P.length) (hN : N.length = P.length) (hp : P.length ≤ 4) (hr : ∀ x ∈ l, 0 ≤ x ∧ x ≤ 1000) (hD : OrdTo l P.length D) :
    Calls Tryz.prog 23 #[.agg #[vP, vN, .int .i64 mn, .int .i64 lw, .int .i64 hi], .int .i64 v] w (FromPost D w) := by
  have hvn : v < P.length := by rw [← hN]; exact (List.getElem?_eq_some_iff.1 hv).1
  obtain ⟨p, cap, rfl, hcp, hmx, _⟩ := h.p.int
  obtain ⟨q, k, rfl, hck, hkm, hcn⟩ := h.n.form
  have hcn := Lib.hid hcn
  obtain ⟨gN, oN, u, rfl, _, hgN, hcu, hu⟩ := hcn.out v l hv
  obtain ⟨pl, kl, rfl, hkl, hml, hcl⟩ := hu.int
  obtain ⟨gl, ol, rfl, _, hgl, hd0⟩ := hcl 0 _ (List.getElem?_eq_getElem (by omega))
  clear hd0
  have HR : Hid (∀ j, j < P.length → w.cell? ⟨gl, ol + j, none⟩ = some (.int .i64 (keyL l j))) := fun j hj => by
    obtain ⟨g2, o2, e, _, _, hc2⟩ := hcl j _ (List.getElem?_eq_getElem (by omega))
    injection e with e; injection e with e1 e2
    subst e1 e2
    unfold keyL
    rw [Int.toNat_natCast, List.getD_eq_getElem?_getD, List.getElem?_eq_getElem (show j < l.length by omega)]
    exact hc2
  have hkey : ∀ x : Int, 0 ≤ x → x < P.length → 0 ≤ keyL l x ∧ keyL l x ≤ 1000 := fun x a b => by
    have hx : x.toNat < l.length := by omega
    unfold keyL
    rw [List.getD_eq_getElem?_getD, List.getElem?_eq_getElem hx]
    exact hr _ (List.getElem_mem hx)
  have HK := Lib.hid hkey
  have HF0 := Lib.hid (NF.start (l := l) (n := P.length) (fun x a b => (hkey x a b).1))
  have L0 := Lib.hid (LocN.mk_ w [.slice p P.length cap, .slice (some ⟨gN, oN, none⟩) N.length k, .int .i64 mn, .int .i64 lw, .int .i64 hi] 27 rfl)
  have HCU := Lib.hid hcu; have HOD := Lib.hid hD; have HN := Lib.hid hN
  obtain ⟨n, hn⟩ : ∃ n, n = P.length := ⟨_, rfl⟩
  rw [hN] at hck L0 ⊢
  rw [← hn] at hcp hck hp hvn L0 HR HK HF0 HOD HN ⊢
  have HCUl : l.length = n := by rw [hn]; exact hl
  rw [HCUl] at HCU
  have v0 : (0 : Int) ≤ (v : Int) := by omega
  have v1 : (v : Int) < (n : Int) := by omega
  have hb0 : Below w.heap.size w (w.alloc (.cells [.slice p n cap, .slice (some ⟨gN, oN, none⟩) n k, .int .i64 mn, .int .i64 lw, .int .i64 hi].toArray 27)) := (by repeat (first | exact Below.refl _ _ | refine Below.drew ?_ | refine below_drewN ?_ _ | refine Below.trans ?_ (Below.mono (by assumption) (by first | omega | (simp; omega) | (simp; done))) | refine Below.alloc ?_ (by first | omega | (simp; omega) | (simp; done)) _ | refine Below.setCell ?_ (by first | omega | (simp; omega) | (simp; done)) _))
  have HB0 := Lib.hid hb0
  unfold maxLen at hmx hkm hml
  clear h hv hl hN hr hD hcu hu hcl hkey hn hb0 hcn HCUl
  go_enter Tryz.func23, Tryz.ntmps23
  go_wp2_with fail
  go_loopw [5, 6] (fun ov fv wr => ∃ (far : Nat) (q : Option Addr) (kq m : Nat) (S : List Int), far ≤ 1001 ∧ fv = .int .i64 far ∧ ov = .slice q m kq ∧ m ≤ n ∧ Hid (S.length = m) ∧ Hid (NF l n far 0 S) ∧ Hid (wr.ownsRow (w.heap.size + 1) 3 1 (.slice q m kq) m (ints S)) ∧ Hid (LocN wr w.heap.size [.slice p n cap, .slice (some ⟨gN, oN, none⟩) n k, .int .i64 mn, .int .i64 lw, .int .i64 hi]) ∧ Below w.heap.size w wr ∧ w.heap.size < wr.heap.size) (fun _ fv _ => 1001 - (intOf fv).toNat)
  case atStart => exact ⟨0, none, 0, 0, [], by omega, by go_num, rfl, by omega, (show ([] : List Int).length = 0 from rfl), HF0, World.ownsRow_nil _ _ _ _, L0, HB0.out, by simp⟩
  case round =>
    obtain ⟨far, q, kq, m, S, hfar, rfl, rfl, hmn, HSm, HNF, HOW, HL, hbel, hlt0⟩ := hrel
    by_cases hf : far ≤ 1000
    · obtain ⟨wo, rfl⟩ : ∃ wo : World, wo = wr := ⟨_, rfl⟩
      clear L0 HB0
      have hfd : decide ((far : Int) ≤ 1000) = true := decide_eq_true (by omega)
      go_wp2_with fail
      go_loopw [5, 7] (fun ov iv wr => ∃ (i : Nat) (q : Option Addr) (kq m : Nat) (S : List Int), i ≤ n ∧ iv = .int .i64 i ∧ ov = .slice q m kq ∧ m ≤ n ∧ Hid (S.length = m) ∧ Hid (NF l n far i S) ∧ Hid (wr.ownsRow (w.heap.size + 1) 3 1 (.slice q m kq) m (ints S)) ∧ Hid (LocN wr w.heap.size [.slice p n cap, .slice (some ⟨gN, oN, none⟩) n k, .int .i64 mn, .int .i64 lw, .int .i64 hi]) ∧ Below w.heap.size w wr ∧ w.heap.size < wr.heap.size) (fun _ iv _ => n - (intOf iv).toNat)
      case atStart => exact ⟨0, q, kq, m, S, by omega, by go_num, rfl, hmn, HSm, HNF, HOW, HL, hbel, hlt0⟩
      case round =>
        obtain ⟨i, q2, kq2, m2, S2, hile, rfl, rfl, hmn2, HSm2, HNF2, HOW2, HL2, hbel2, hlt2⟩ := hrel
        have a0 := HL2.out.c 0 _ rfl; have a1 := HL2.out.c 1 _ rfl; have al := HL2.out.lt
        clear HSm HNF HOW HL hbel hlt0
        by_cases hin : i < n
        · have c0 := (hbel2.cell (p := ⟨gN, oN + v, none⟩) hgN).trans HCU.out
          obtain ⟨ki, hki⟩ : ∃ ki, ki = keyL l (i : Int) := ⟨_, rfl⟩
          have c1 := (hbel2.cell (p := ⟨gl, ol + i, none⟩) hgl).trans (HR.out i hin)
          rw [← hki] at c1
          have HKI := Lib.hid hki
          have z0 : gN < wr.heap.size := by omega
          have z1 : gl < wr.heap.size := by omega
          have i0 : (0 : Int) ≤ (i : Int) := by omega
          have i1 : (i : Int) < (n : Int) := by omega
          clear hki
          by_cases hk : ki = (far : Int)
          · have hb : (ki == (far : Int)) = true := by simp [hk]
            have HN2 := Lib.hid (HNF2.out.hit hin (by rw [← HKI.out]; exact hk))
            have hlen2 := HN2.out.len
            have hil : (ints S2).length = m2 := by rw [ints_length]; exact HSm2.out
            have OW2 : Hid (∀ o, (wr.alloc o).ownsRow (w.heap.size + 1) 3 1 (.slice q2 m2 kq2) (ints S2).length (ints S2)) := fun o => by rw [hil]; exact HOW2.out.alloc o
            have HIL := Lib.hid hil
            have hm1 : m2 + 1 ≤ n := by have := HSm2.out; simp at hlen2; omega
            have hS1 : Hid ((S2 ++ [(i : Int)]).length = m2 + 1) := by show _ = _; have := HSm2.out; simp; omega
            clear hil hk hlen2
            go_wp2_with (first | (at_builtin; refine wpList_app1 (base := w.heap.size + 1) (v := .slice q2 m2 kq2) (us := ints S2) (ms := [.int .i64 i]) (p := some ⟨wr.heap.size, 0, none⟩) elInt rfl (.tmp 29) (.tmp 31) (by rfl) (by rfl) 1 (by rfl) rfl (OW2.out _) (srcV_one _ _ _) (by intro x hx; simp at hx; subst hx; rfl) (by rw [HIL.out]; simp; omega) (by simp; omega) ?_; intro qb kb w4 hown4 hg4 ho4))
            have e4 : ints S2 ++ [Value.int .i64 i] = ints (S2 ++ [(i : Int)]) := by simp [ints]
            have l4 : (ints (S2 ++ [(i : Int)])).length = m2 + 1 := by rw [ints_length]; exact hS1.out
            rw [e4, l4] at hown4
            have OW4 := Lib.hid hown4
            have hb4 : Below w.heap.size w w4 := (hbel2.alloc (by omega) _).grown hg4 (by simp; omega) (fun r hr => by have := ((OW2.out (.cells #[.int .i64 i] 3)).lt r hr).1; omega)
            have LI : Hid ((ints S2).length + 1 = m2 + 1) := by have := HIL.out; show _ = _; omega
            have HL4 : Hid (LocN w4 w.heap.size [.slice p n cap, .slice (some ⟨gN, oN, none⟩) n k, .int .i64 mn, .int .i64 lw, .int .i64 hi]) := (HL2.out.past (.cells #[.int .i64 i] 3)).keep (app_keep hg4) (fun hq => by have := ownX_ge (OW2.out (.cells #[.int .i64 i] 3)) hq; omega)
            have z4 := hg4.size
            simp at z4
            clear hown4 hg4 ho4 OW2 e4 l4
            simp only [HIL.out]
            go_wp2
            go_roundw
            case rel => exact ⟨i + 1, qb, kb, m2 + 1, S2 ++ [(i : Int)], by omega, by go_num, rfl, hm1, hS1, HN2, OW4, HL4, hb4, by omega⟩
            case measure => simp [intOf]; omega
          · have hb : (ki == (far : Int)) = false := by simp [hk]
            have HN2 := Lib.hid (HNF2.out.miss (by rw [← HKI.out]; exact hk))
            clear hk
            go_wp2
            go_roundw
            case rel => exact ⟨i + 1, q2, kq2, m2, S2, by omega, by go_num, rfl, hmn2, HSm2, HN2, HOW2, HL2, hbel2, hlt2⟩
            case measure => simp [intOf]; omega
        · obtain rfl : i = n := by omega
          have HN2 := Lib.hid HNF2.out.next
          go_wp2
          go_roundw
          case rel => exact ⟨far + 1, q2, kq2, m2, S2, by omega, by go_num, rfl, hmn2, HSm2, HN2, HOW2, HL2, hbel2, hlt2⟩
          case measure => simp [intOf]; omega
    · obtain rfl : far = 1001 := by omega
      have hfd : decide (((1001 : Nat) : Int) ≤ 1000) = false := by decide
      have hSD : S = D := pw_unique HNF.out.pw HOD.out.pw (fun x => by
        rw [HNF.out.mem x, HOD.out.mem x]
        constructor
        · exact fun q => q.1
        · intro q
          have := HK.out x q.1 q.2
          exact ⟨q, .inl (by omega)⟩)
      subst hSD
      have hm : S.length = m := HSm.out
      have HM := Lib.hid hm
      clear hm hf
      go_wp2
      go_ret
      refine ⟨q, kq, (by show Ending.returned (.slice q m kq) = _; rw [HM.out]), ?_, hbel⟩
      rw [HM.out]
      exact row_base HOW.out (by omega)
end Go.Proofs.YtcokmiidgdmdlaaGreatDoor

namespace Go.Proofs.YtcokmiidgdmdlaaGreatDoor
open Go.RowKit
set_option linter.unusedSimpArgs false
set_option linter.unusedVariables false

theorem any_take_snoc {α : Type} {p : α → Bool} {xs : List α} {j : Nat} {x : α} (h : xs[j]? = some x) (hp : (xs.take j).any p = false) (hx : p x = false) : (xs.take (j + 1)).any p = false := by rw [any_snoc h, hp, hx]; rfl
theorem any_of_get {α : Type} {p : α → Bool} {xs : List α} {j : Nat} {x : α} (h : xs[j]? = some x) (hx : p x = true) : xs.any p = true := List.any_eq_true.2 ⟨x, List.mem_of_getElem? h, hx⟩
theorem cfgE_two {P : List Int} {N : List (List Int)} {mn lw hi : Int} (h : bndC P N mn lw hi = false) : cfgE P N mn lw hi = 2 := by unfold cfgE; rw [if_pos h]
theorem bnd_pages {P : List Int} {N : List (List Int)} {mn lw hi : Int} (h : P.any noPg = true) : cfgE P N mn lw hi = 2 := cfgE_two (by unfold bndC; rw [h]; simp)
theorem bnd_far {P : List Int} {N : List (List Int)} {mn lw hi : Int} (h : N.any farNo = true) : cfgE P N mn lw hi = 2 := cfgE_two (by unfold bndC; rw [h]; simp)
theorem bnd_marks {P : List Int} {N : List (List Int)} {mn lw hi : Int} (h : marksC mn lw hi = false) : cfgE P N mn lw hi = 2 := cfgE_two (by unfold bndC; rw [h]; simp)
theorem bnd_yes {P : List Int} {N : List (List Int)} {mn lw hi : Int} (h1 : 1 ≤ P.length) (h2 : P.length ≤ 4) (h3 : P.any noPg = false) (h4 : N.any farNo = false) (h5 : marksC mn lw hi = true) : cfgE P N mn lw hi = if sqC P N && !badC N then 0 else 3 := by
  unfold cfgE
  have : bndC P N mn lw hi = true := by unfold bndC; rw [decide_eq_true h1, decide_eq_true h2, h3, h4, h5]; rfl
  rw [if_neg (by rw [this]; simp)]

set_option maxHeartbeats 8000000 in
set_option maxRecDepth 100000 in
theorem cfgErr_any (X : List Nat) (vP vN : Value) (P : List Int) (N : List (List Int)) (mn lw hi : Int) (w : World) (h : Cfg X w vP vN P N) :
    Calls Tryz.prog 19 #[.agg #[vP, vN, .int .i64 mn, .int .i64 lw, .int .i64 hi]] w fun e w' => e = .returned (.int .i64 ((cfgE P N mn lw hi : Nat) : Int)) ∧ Below w.heap.size w w' := by
  obtain ⟨p, cap, rfl, hcp, hmx, hP⟩ := h.p.int
  obtain ⟨q, k, rfl, hck, hkm, hN⟩ := h.n.form
  have HP := Lib.hid hP; have HN := Lib.hid hN
  unfold maxLen at hmx hkm
  clear hP hN h
  by_cases hp : P.length < 1 ∨ 4 < P.length
  · have e : cfgE P N mn lw hi = 2 := cfgE_two (by unfold bndC; rcases hp with q | q; (· rw [decide_eq_false (show ¬ 1 ≤ P.length by omega)]; simp); (· rw [decide_eq_false (show ¬ P.length ≤ 4 by omega)]; simp))
    have E := Lib.hid e
    rw [e]
    clear e
    rcases hp with hp | hp
    · obtain hp : P.length = 0 := by omega
      rw [hp] at hcp ⊢
      clear hp
      go_enter Tryz.func19, Tryz.ntmps19
      go_wp2
      go_ret
      exact ⟨rfl, (by repeat (first | exact Below.refl _ _ | refine Below.drew ?_ | refine below_drewN ?_ _ | refine Below.trans ?_ (Below.mono (by assumption) (by first | omega | (simp; omega) | (simp; done))) | refine Below.alloc ?_ (by first | omega | (simp; omega) | (simp; done)) _ | refine Below.setCell ?_ (by first | omega | (simp; omega) | (simp; done)) _))⟩
    · go_enter Tryz.func19, Tryz.ntmps19
      go_wp2
      go_ret
      exact ⟨rfl, (by repeat (first | exact Below.refl _ _ | refine Below.drew ?_ | refine below_drewN ?_ _ | refine Below.trans ?_ (Below.mono (by assumption) (by first | omega | (simp; omega) | (simp; done))) | refine Below.alloc ?_ (by first | omega | (simp; omega) | (simp; done)) _ | refine Below.setCell ?_ (by first | omega | (simp; omega) | (simp; done)) _))⟩
  have hp1 : 1 ≤ P.length := by omega
  have hp4 : P.length ≤ 4 := by omega
  clear hp
  obtain ⟨n, hn⟩ : ∃ n, n = P.length := ⟨_, rfl⟩
  obtain ⟨m, hm⟩ : ∃ m, m = N.length := ⟨_, rfl⟩
  have EN := Lib.hid hn; have EM := Lib.hid hm
  rw [← hn] at hp1 hp4 hcp ⊢
  rw [← hm] at hck ⊢
  have L0 := Lib.hid (LocN.mk_ w [.slice p n cap, .slice q m k, .int .i64 mn, .int .i64 lw, .int .i64 hi] 27 rfl)
  have HB0 := Lib.hid (show Below w.heap.size w (w.alloc (.cells [.slice p n cap, .slice q m k, .int .i64 mn, .int .i64 lw, .int .i64 hi].toArray 27)) from (by repeat (first | exact Below.refl _ _ | refine Below.drew ?_ | refine below_drewN ?_ _ | refine Below.trans ?_ (Below.mono (by assumption) (by first | omega | (simp; omega) | (simp; done))) | refine Below.alloc ?_ (by first | omega | (simp; omega) | (simp; done)) _ | refine Below.setCell ?_ (by first | omega | (simp; omega) | (simp; done)) _)))
  obtain ⟨s0, hs0⟩ : ∃ s0 : Bool, ((m : Int) == (n : Int)) = s0 := ⟨_, rfl⟩
  have HS0 : Hid (s0 = decide (N.length = P.length)) := by
    show _ = _
    rw [← hs0, hn, hm]
    by_cases e : N.length = P.length
    · rw [decide_eq_true e, e]; simp
    · rw [decide_eq_false e]; simp; omega
  clear hn hm
  go_enter Tryz.func19, Tryz.ntmps19
  go_wp2_with fail
  go_loopw [4] (fun iv wr => ∃ i : Nat, i ≤ n ∧ iv = .int .i64 i ∧ Hid ((P.take i).any noPg = false) ∧ wr = (w.alloc (.cells [.slice p n cap, .slice q m k, .int .i64 mn, .int .i64 lw, .int .i64 hi].toArray 27))) (fun iv _ => n - (intOf iv).toNat)
  case atStart => exact ⟨0, Nat.zero_le _, by go_num, (show _ = _ by simp), rfl⟩
  case round =>
    obtain ⟨i, hi', rfl, HA, rfl⟩ := hrel
    by_cases hin : i < n
    · obtain ⟨x, hx⟩ : ∃ x, P[i]? = some x := ⟨P[i]'(by rw [← EN.out]; exact hin), List.getElem?_eq_getElem _⟩
      obtain ⟨g, off, rfl, _, hg, hc⟩ := HP.out i x hx
      have r1 := (HB0.out.cell (p := ⟨g, off + i, none⟩) hg).trans hc
      have i0 : (0 : Int) ≤ (i : Int) := by omega
      have i1 : (i : Int) < (n : Int) := by omega
      have gr : g < (w.alloc (.cells [.slice (some ⟨g, off, none⟩) n cap, .slice q m k, .int .i64 mn, .int .i64 lw, .int .i64 hi].toArray 27)).heap.size := by simp; omega
      have HX := Lib.hid hx
      clear hx hc
      by_cases hb : x < 1
      · have d1 : decide (x < 1) = true := decide_eq_true hb
        have E : Hid (cfgE P N mn lw hi = 2) := bnd_pages (any_of_get HX.out (by unfold noPg; simp; omega))
        clear hb
        go_wp2
        go_ret
        exact ⟨by rw [E.out]; rfl, HB0.out⟩
      have d1 : decide (x < 1) = false := decide_eq_false hb
      by_cases hb2 : 256 < x
      · have d2 : decide (256 < x) = true := decide_eq_true hb2
        have E : Hid (cfgE P N mn lw hi = 2) := bnd_pages (any_of_get HX.out (by unfold noPg; simp; omega))
        clear hb hb2
        go_wp2
        go_ret
        exact ⟨by rw [E.out]; rfl, HB0.out⟩
      have d2 : decide (256 < x) = false := decide_eq_false hb2
      have NX : Hid ((P.take (i + 1)).any noPg = false) := any_take_snoc HX.out HA.out (by unfold noPg; simp; omega)
      clear hb hb2
      go_wp2
      go_roundw
      case rel => exact ⟨i + 1, by omega, by go_num, NX, trivial⟩
      case measure => simp [intOf]; omega
    · have HA1 : Hid (P.any noPg = false) := by
        show _ = _
        have := HA.out
        rwa [show i = P.length by have := EN.out; omega, List.take_length] at this
      obtain rfl : i = n := by omega
      have K0 := L0.out
      clear hin HA
      have k0 := K0.c 0 _ rfl; have k1 := K0.c 1 _ rfl; have k2 := K0.c 2 _ rfl; have k3 := K0.c 3 _ rfl; have k4 := K0.c 4 _ rfl
      clear K0
      go_wp2_with fail
      go_loopw [5, 6] (fun sv iv wr => ∃ (j : Nat) (s : Bool), j ≤ m ∧ iv = .int .i64 j ∧ sv = .bool s ∧ Hid ((N.take j).any farNo = false) ∧ Hid (s = (s0 && !(N.take j).any (lenNe i))) ∧ wr = (w.alloc (.cells [.slice p i cap, .slice q m k, .int .i64 mn, .int .i64 lw, .int .i64 hi].toArray 27))) (fun _ iv _ => m - (intOf iv).toNat)
      case atStart => exact ⟨0, s0, Nat.zero_le _, by go_num, rfl, (show _ = _ by simp), (show _ = _ by simp), rfl⟩
      case round =>
        obtain ⟨j, s, hj', rfl, rfl, HF, HS, rfl⟩ := hrel
        by_cases hjm : j < m
        · obtain ⟨l, hl⟩ : ∃ l, N[j]? = some l := ⟨N[j]'(by rw [← EM.out]; exact hjm), List.getElem?_eq_getElem _⟩
          obtain ⟨g, off, u, rfl, _, hg, hc, hu⟩ := HN.out j l hl
          obtain ⟨pl, kl, rfl, hkl, hml, hcl⟩ := hu.int
          have r1 := (HB0.out.cell (p := ⟨g, off + j, none⟩) hg).trans hc
          have j0 : (0 : Int) ≤ (j : Int) := by omega
          have j1 : (j : Int) < (m : Int) := by omega
          have gr : g < (w.alloc (.cells [.slice p i cap, .slice (some ⟨g, off, none⟩) m k, .int .i64 mn, .int .i64 lw, .int .i64 hi].toArray 27)).heap.size := by simp; omega
          have HL := Lib.hid hl; have HCL := Lib.hid hcl
          unfold maxLen at hml
          clear hl hu hc hcl
          obtain ⟨c, hc⟩ : ∃ c, c = l.length := ⟨_, rfl⟩
          have EC := Lib.hid hc
          rw [← hc] at r1 hkl
          clear hc
          go_wp2_with fail
          go_loopw [7] (fun iv wr => ∃ t : Nat, t ≤ c ∧ iv = .int .i64 t ∧ Hid ((l.take t).any noFar = false) ∧ wr = (w.alloc (.cells [.slice p i cap, .slice (some ⟨g, off, none⟩) m k, .int .i64 mn, .int .i64 lw, .int .i64 hi].toArray 27))) (fun iv _ => c - (intOf iv).toNat)
          case atStart => exact ⟨0, Nat.zero_le _, by go_num, (show _ = _ by simp), rfl⟩
          case round =>
            obtain ⟨t, ht', rfl, HT, rfl⟩ := hrel
            by_cases htc : t < c
            · obtain ⟨x, hx⟩ : ∃ x, l[t]? = some x := ⟨l[t]'(by rw [← EC.out]; exact htc), List.getElem?_eq_getElem _⟩
              obtain ⟨g2, off2, rfl, _, hg2, hc2⟩ := HCL.out t x hx
              have r2 := (HB0.out.cell (p := ⟨g2, off2 + t, none⟩) hg2).trans hc2
              have t0 : (0 : Int) ≤ (t : Int) := by omega
              have t1 : (t : Int) < (c : Int) := by omega
              have HX := Lib.hid hx
              clear hx hc2
              by_cases hb : x < 0
              · have d1 : decide (x < 0) = true := decide_eq_true hb
                have E : Hid (cfgE P N mn lw hi = 2) := bnd_far (any_of_get HL.out (any_of_get HX.out (by unfold noFar; simp; omega)))
                clear hb
                go_wp2
                go_ret
                exact ⟨by rw [E.out]; rfl, HB0.out⟩
              have d1 : decide (x < 0) = false := decide_eq_false hb
              by_cases hb2 : 1000 < x
              · have d2 : decide (1000 < x) = true := decide_eq_true hb2
                have E : Hid (cfgE P N mn lw hi = 2) := bnd_far (any_of_get HL.out (any_of_get HX.out (by unfold noFar; simp; omega)))
                clear hb hb2
                go_wp2
                go_ret
                exact ⟨by rw [E.out]; rfl, HB0.out⟩
              have d2 : decide (1000 < x) = false := decide_eq_false hb2
              have NX : Hid ((l.take (t + 1)).any noFar = false) := any_take_snoc HX.out HT.out (by unfold noFar; simp; omega)
              clear hb hb2
              go_wp2
              go_roundw
              case rel => exact ⟨t + 1, by omega, by go_num, NX, trivial⟩
              case measure => simp [intOf]; omega
            · have hlf : farNo l = false := by
                have := HT.out
                rw [show t = l.length by have := EC.out; omega, List.take_length] at this
                exact this
              have NF2 : Hid ((N.take (j + 1)).any farNo = false) := any_take_snoc HL.out HF.out hlf
              obtain rfl : t = c := by omega
              clear htc HT hlf
              by_cases hln : t = i
              · have d1 : ((t : Int) != (i : Int)) = false := bne_eq_false_iff_eq.2 (by omega)
                have hle : lenNe i l = false := by unfold lenNe; rw [← EC.out, hln]; simp
                have NS : Hid (s = (s0 && !(N.take (j + 1)).any (lenNe i))) := by show _ = _; rw [any_snoc HL.out, hle, Bool.or_false]; exact HS.out
                clear hln hle
                go_wp2
                go_roundw
                case rel => exact ⟨j + 1, s, by omega, by go_num, rfl, NF2, NS, trivial⟩
                case measure => simp [intOf]; omega
              · have d1 : ((t : Int) != (i : Int)) = true := bne_iff_ne.2 (by omega)
                have hle : lenNe i l = true := by unfold lenNe; rw [← EC.out]; simp; omega
                have NS : Hid (false = (s0 && !(N.take (j + 1)).any (lenNe i))) := by show _ = _; rw [any_snoc HL.out, hle]; simp
                clear hln hle
                go_wp2
                go_roundw
                case rel => exact ⟨j + 1, false, by omega, by go_num, rfl, NF2, NS, trivial⟩
                case measure => simp [intOf]; omega
        · have HF1 : Hid (N.any farNo = false) := by
            show _ = _
            have := HF.out
            rwa [show j = N.length by have := EM.out; omega, List.take_length] at this
          have HS1 : Hid (s = sqC P N) := by
            show _ = _
            have := HS.out
            rw [show j = N.length by have := EM.out; omega, List.take_length, HS0.out, EN.out] at this
            exact this
          obtain rfl : j = m := by omega
          clear hjm HF HS
          by_cases hm0 : mn < 0
          · have d1 : decide (mn < 0) = true := decide_eq_true hm0
            have E : Hid (cfgE P N mn lw hi = 2) := bnd_marks (by unfold marksC; rw [decide_eq_false (show ¬ 0 ≤ mn by omega)]; rfl)
            clear hm0
            go_wp2
            go_ret
            exact ⟨by rw [E.out]; rfl, HB0.out⟩
          have d1 : decide (mn < 0) = false := decide_eq_false hm0
          by_cases hm1 : lw < mn
          · have d2 : decide (lw < mn) = true := decide_eq_true hm1
            have E : Hid (cfgE P N mn lw hi = 2) := bnd_marks (by unfold marksC; rw [decide_eq_false (show ¬ mn ≤ lw by omega)]; simp)
            clear hm0 hm1
            go_wp2
            go_ret
            exact ⟨by rw [E.out]; rfl, HB0.out⟩
          have d2 : decide (lw < mn) = false := decide_eq_false hm1
          by_cases hm2 : hi < lw
          · have d3 : decide (hi < lw) = true := decide_eq_true hm2
            have E : Hid (cfgE P N mn lw hi = 2) := bnd_marks (by unfold marksC; rw [decide_eq_false (show ¬ lw ≤ hi by omega)]; simp)
            clear hm0 hm1 hm2
            go_wp2
            go_ret
            exact ⟨by rw [E.out]; rfl, HB0.out⟩
          have d3 : decide (hi < lw) = false := decide_eq_false hm2
          have E : Hid (cfgE P N mn lw hi = if sqC P N && !badC N then 0 else 3) := bnd_yes (by rw [← EN.out]; exact hp1) (by rw [← EN.out]; exact hp4) HA1.out HF1.out (by unfold marksC; simp; omega)
          clear hm0 hm1 hm2
          cases s with
          | false =>
            have E3 : Hid (cfgE P N mn lw hi = 3) := by show _ = _; rw [E.out, ← HS1.out]; rfl
            go_wp2
            go_ret
            exact ⟨by rw [E3.out]; rfl, HB0.out⟩
          | true =>
            have E3 : Hid (cfgE P N mn lw hi = if !badC N then 0 else 3) := by show _ = _; rw [E.out, ← HS1.out]; rfl
            have hsq : Hid (N.length = P.length ∧ ∀ (j : Nat) (l : List Int), N[j]? = some l → l.length = P.length) := by
              have := HS1.out.symm
              unfold sqC at this
              rw [Bool.and_eq_true] at this
              refine ⟨of_decide_eq_true this.1, fun j l hj => ?_⟩
              have h2 : (N.any (lenNe P.length)) = false := by simpa using this.2
              have h3 := List.any_eq_false.1 h2 l (List.mem_of_getElem? hj)
              unfold lenNe at h3
              simp at h3
              omega
            obtain rfl : j = i := by have := hsq.out.1; have := EN.out; have := EM.out; omega
            clear k0 HS1 E
            go_wp2_with fail
            trace_state
            go_loopw [8] (fun iv wr => ∃ t : Nat, t ≤ j ∧ iv = .int .i64 t ∧ Hid ((List.range t).any (badAt N) = false) ∧ Hid (LocN wr w.heap.size [.slice p j cap, .slice q j k, .int .i64 mn, .int .i64 lw, .int .i64 hi]) ∧ Below w.heap.size w wr) (fun iv _ => j - (intOf iv).toNat)
            case atStart => exact ⟨0, Nat.zero_le _, by go_num, (show _ = _ by simp), L0, HB0.out⟩
            case round =>
              obtain ⟨t, ht', rfl, HT, HLr, hbel⟩ := hrel
              clear k1
              by_cases htj : t < j
              · obtain ⟨wo, rfl⟩ : ∃ wo : World, wo = wr := ⟨_, rfl⟩
                obtain ⟨l, hl⟩ : ∃ l, N[t]? = some l := ⟨N[t]'(by rw [← EM.out]; exact htj), List.getElem?_eq_getElem _⟩
                obtain ⟨g, off, u, rfl, _, hg, hc, hu⟩ := HN.out t l hl
                obtain ⟨pl, kl, rfl, hkl, hml, hcl⟩ := hu.int
                have hll := hsq.out.2 t l hl
                rw [← EN.out] at hll
                have hsn := range_snoc (badAt N) t
                rw [HT.out, Bool.false_or] at hsn
                have hbr : badAt N t = badRow t l := by unfold badAt; rw [getD_of hl]
                rw [hbr] at hsn
                have SN := Lib.hid hsn; have BR := Lib.hid hbr
                have t0 : (0 : Int) ≤ (t : Int) := by omega
                have t1 : (t : Int) < (j : Int) := by omega
                rw [hll] at hkl hc
                have HCC := Lib.hid hc; have HCL := Lib.hid hcl; have HLL := Lib.hid hll
                obtain ⟨vt, hvt⟩ : ∃ x, l[t]? = some x := ⟨l[t]'(by rw [hll]; exact htj), List.getElem?_eq_getElem _⟩
                obtain ⟨g2, off2, rfl, _, hg2, hct⟩ := HCL.out t vt hvt
                have HVT := Lib.hid (getD_of (d := (0 : Int)) hvt); have HCT := Lib.hid hct
                unfold maxLen at hml
                clear hl hu hc hcl hll hsn hbr hct hvt
                go_wp2_with fail
                go_loopw [9] (fun iv wr => ∃ b : Nat, b ≤ j ∧ iv = .int .i64 b ∧ Hid ((List.range b).any (badB t l) = false) ∧ Hid (LocN wr w.heap.size [.slice p j cap, .slice (some ⟨g, off, none⟩) j k, .int .i64 mn, .int .i64 lw, .int .i64 hi]) ∧ Below w.heap.size w wr) (fun iv _ => j - (intOf iv).toNat)
                case atStart => exact ⟨0, Nat.zero_le _, by go_num, (show _ = _ by simp), HLr, hbel⟩
                case round =>
                  obtain ⟨b, hb', rfl, HB, HLb, hbl⟩ := hrel
                  have zb := hbl.size
                  by_cases hbj : b < j
                  · have k1 := HLb.out.c 1 _ rfl; have kl1 := HLb.out.lt
                    have r1 := (hbl.cell (p := ⟨g, off + t, none⟩) hg).trans HCC.out
                    have r2 := (hbl.cell (p := ⟨g2, off2 + t, none⟩) hg2).trans HCT.out
                    obtain ⟨vb, hvb⟩ : ∃ x, l[b]? = some x := ⟨l[b]'(by rw [HLL.out]; exact hbj), List.getElem?_eq_getElem _⟩
                    obtain ⟨g3, off3, e3, _, hg3, hcb⟩ := HCL.out b vb hvb
                    have e3' : g3 = g2 ∧ off3 = off2 := by injection e3 with e3; injection e3 with a b; exact ⟨a.symm, b.symm⟩
                    obtain ⟨rfl, rfl⟩ := e3'
                    have r3 := (hbl.cell (p := ⟨g3, off3 + b, none⟩) hg3).trans hcb
                    have hsn := range_snoc (badB t l) b
                    rw [HB.out, Bool.false_or] at hsn
                    have ebj : badB t l b = (decide (t ≠ b) && decide (vb ≤ vt)) := by unfold badB; rw [getD_of hvb, HVT.out]
                    rw [ebj] at hsn
                    have SJ := Lib.hid hsn; have EBJ := Lib.hid ebj
                    have b0 : (0 : Int) ≤ (b : Int) := by omega
                    have b1 : (b : Int) < (j : Int) := by omega
                    have gr1 : g < wr.heap.size := by omega
                    have gr3 : g3 < wr.heap.size := by omega
                    clear hvb hcb e3 hsn ebj
                    by_cases etb : t = b
                    · have d1 : ((t : Int) != (b : Int)) = false := bne_eq_false_iff_eq.2 (by omega)
                      have hr : Hid ((List.range (b + 1)).any (badB t l) = false) := by have := SJ.out; rwa [decide_eq_false (by simpa using etb), Bool.false_and] at this
                      clear etb
                      go_wp2_with fail
                      go_quiet (fail)
                      go_wp2
                      go_roundw
                      case rel => exact ⟨b + 1, by omega, by go_num, hr, HLb.out.drewNL _, below_drewN hbl _⟩
                      case measure => simp [intOf]; omega
                    · have d1 : ((t : Int) != (b : Int)) = true := bne_iff_ne.2 (by omega)
                      by_cases hv : vb ≤ vt
                      · have d2 : decide (vb ≤ vt) = true := decide_eq_true hv
                        have hbad : badC N = true := range_of (j := t) (by rw [← EM.out]; omega) (BR.out.trans (range_of (j := b) (by rw [HLL.out]; exact hbj) (EBJ.out.trans (by simp [etb, hv]))))
                        have E4 : Hid (cfgE P N mn lw hi = 3) := by show _ = _; rw [E3.out, hbad]; rfl
                        clear etb hv hbad
                        go_wp2_with fail
                        go_quiet (fail)
                        go_wp2
                        go_ret
                        exact ⟨by rw [E4.out]; rfl, below_drewN hbl _⟩
                      · have d2 : decide (vb ≤ vt) = false := decide_eq_false hv
                        have hr : Hid ((List.range (b + 1)).any (badB t l) = false) := by have := SJ.out; rwa [d2, Bool.and_false] at this
                        clear etb hv
                        go_wp2_with fail
                        go_quiet (fail)
                        go_wp2
                        go_roundw
                        case rel => exact ⟨b + 1, by omega, by go_num, hr, HLb.out.drewNL _, below_drewN hbl _⟩
                        case measure => simp [intOf]; omega
                  · have hrow : badRow t l = false := by
                      have := HB.out
                      rw [show b = l.length by have := HLL.out; omega] at this
                      exact this
                    have NT : Hid ((List.range (t + 1)).any (badAt N) = false) := by show _ = _; rw [SN.out, hrow]
                    obtain rfl : b = j := by omega
                    clear hbj hrow HB
                    go_wp2
                    go_roundw
                    case rel => exact ⟨t + 1, by omega, by go_num, NT, HLb, hbl⟩
                    case measure => simp [intOf]; omega
              · have hbad : badC N = false := by
                  have := HT.out
                  rw [show t = N.length by have := EM.out; omega] at this
                  exact this
                have E4 : Hid (cfgE P N mn lw hi = 0) := by show _ = _; rw [E3.out, hbad]; rfl
                obtain rfl : t = j := by omega
                clear htj hbad HT
                go_wp2
                go_ret
                exact ⟨by rw [E4.out]; rfl, hbel⟩
end Go.Proofs.YtcokmiidgdmdlaaGreatDoor
