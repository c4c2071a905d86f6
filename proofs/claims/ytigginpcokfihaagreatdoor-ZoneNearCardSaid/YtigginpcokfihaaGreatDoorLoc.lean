/- Blocks of local variables: a few words more. -/
import Derived.Test.YtigginpcokfihaaGreatDoorVec
namespace Go.Proofs.YtigginpcokfihaaGreatDoor
open Go.RowKit
set_option linter.unusedSimpArgs false
set_option linter.unusedVariables false
theorem LocN.mk_ (w : World) (us : List Value) (t : TypeId) {b : Nat} (h : w.heap.size = b) : LocN (w.alloc (.cells us.toArray t)) b us := by subst h; exact LocN.new w us t
theorem LocN.past {w : World} {b : Nat} {us : List Value} (h : LocN w b us) (o : Obj) : LocN (w.alloc o) b us := h.go ((Below.refl _ _).alloc (Nat.le_refl _) o)
theorem LocN.drewL {w : World} {b : Nat} {us : List Value} (h : LocN w b us) : LocN w.drew b us := h.keep ((Keep.refl [] _).drew) (by simp)
theorem LocN.drewNL {w : World} {b : Nat} {us : List Value} (h : LocN w b us) (m : Nat) : LocN (w.drewN m) b us := h.keep ((Keep.refl [] _).drewN m) (by simp)
theorem LocN.far {w : World} {b c : Nat} {us : List Value} (h : LocN w b us) (hb : c ≠ b) (o : Nat) (v : Value) : LocN (w.setCell ⟨c, o, none⟩ v) b us :=
  h.keep (S := [c]) ((Keep.refl [c] _).setCell (p := ⟨c, o, none⟩) (.inl (by simp)) v) (by simpa using fun e => hb e.symm)
theorem LocN.store2 {w : World} {b : Nat} {u0 u1 : Value} (h : LocN w b [u0, u1]) (v0 v1 : Value) : LocN ((w.setCell ⟨b, 0, none⟩ v0).setCell ⟨b, 1, none⟩ v1) b [v0, v1] := (h.store 0 v0 (by simp)).store 1 v1 (by simp)
theorem LocN.store3 {w : World} {b : Nat} {u0 u1 u2 : Value} (h : LocN w b [u0, u1, u2]) (v0 v1 v2 : Value) : LocN (((w.setCell ⟨b, 0, none⟩ v0).setCell ⟨b, 1, none⟩ v1).setCell ⟨b, 2, none⟩ v2) b [v0, v1, v2] := ((h.store 0 v0 (by simp)).store 1 v1 (by simp)).store 2 v2 (by simp)
theorem Keep.loc2 {S : List Nat} {w0 w : World} {b : Nat} (h : Keep S w0 w) (hb : b ∈ S ∨ w0.heap.size ≤ b) (u v : Value) : Keep S w0 ((w.setCell ⟨b, 0, none⟩ u).setCell ⟨b, 1, none⟩ v) := (h.setCell (p := ⟨b, 0, none⟩) hb u).setCell (p := ⟨b, 1, none⟩) hb v
theorem Keep.loc3 {S : List Nat} {w0 w : World} {b : Nat} (h : Keep S w0 w) (hb : b ∈ S ∨ w0.heap.size ≤ b) (u v x : Value) : Keep S w0 (((w.setCell ⟨b, 0, none⟩ u).setCell ⟨b, 1, none⟩ v).setCell ⟨b, 2, none⟩ x) := (h.loc2 hb u v).setCell (p := ⟨b, 2, none⟩) hb x
theorem Keep.wide {S : List Nat} {a b : World} (h : Keep [] a b) : Keep S a b := h.mono (fun _ q => by cases q)
theorem Keep.stepW {S : List Nat} {a b c : World} (h : Keep [] a b) (k : Below b.heap.size b c) : Keep S a c := (h.step k).wide
theorem Keep.thenW {S : List Nat} {a b c : World} (h : Keep [] a b) (k : Keep S b c) : Keep S a c := h.wide.then k
end Go.Proofs.YtigginpcokfihaaGreatDoor
