/- What the walks ask of the package-level variables: each error of package api lies in its variable, and each is another one; it stays so while nothing below B is written. -/
import Derived.Test.YtigginpcokfihaaGreatDoorPlain
import Derived.Test.YtigginpcokfihaaGreatDoorChecked
import Derived.WalkKit
import Derived.Lib.Hide
namespace Go.Proofs.YtigginpcokfihaaGreatDoor
open Go.RowKit

/-- an error by its number (0: nil) -/
def errV (ev : Nat → Addr) : Nat → Value
  | 0 => .nilIface
  | i + 1 => .iface 199 (.pointer (some (ev (i + 1))))

/-- the number of an error's variable -/
def errG : Nat → Nat
  | 1 => 4
  | 2 => 2
  | 3 => 3
  | 4 => 5
  | 5 => 1
  | 6 => 6
  | 7 => 0
  | 8 => 7
  | 9 => 8
  | _ => 9

/-- the three errors that package frames tells -/
structure ErrC (B : Nat) (ev : Nat → Addr) (w : World) : Prop where
  size : B ≤ w.heap.size
  l2 : 2 < B
  l3 : 3 < B
  l4 : 5 < B
  c2 : w.cell? ⟨2, 0, Option.none⟩ = some (errV ev 2)
  c3 : w.cell? ⟨3, 0, Option.none⟩ = some (errV ev 3)
  c4 : w.cell? ⟨5, 0, Option.none⟩ = some (errV ev 4)

theorem ErrC.below {B : Nat} {ev : Nat → Addr} {w w' : World} (h : ErrC B ev w) (hb : Below B w w') : ErrC B ev w' :=
  ⟨Nat.le_trans h.size hb.size, h.l2, h.l3, h.l4,
   by rw [hb.cell (p := ⟨2, 0, Option.none⟩) h.l2]; exact h.c2,
   by rw [hb.cell (p := ⟨3, 0, Option.none⟩) h.l3]; exact h.c3,
   by rw [hb.cell (p := ⟨5, 0, Option.none⟩) h.l4]; exact h.c4⟩
theorem ErrC.z2 {B : Nat} {ev : Nat → Addr} {w : World} (h : ErrC B ev w) : 2 < w.heap.size := Nat.lt_of_lt_of_le h.l2 h.size
theorem ErrC.z3 {B : Nat} {ev : Nat → Addr} {w : World} (h : ErrC B ev w) : 3 < w.heap.size := Nat.lt_of_lt_of_le h.l3 h.size
theorem ErrC.z4 {B : Nat} {ev : Nat → Addr} {w : World} (h : ErrC B ev w) : 5 < w.heap.size := Nat.lt_of_lt_of_le h.l4 h.size

/-- .. and the fourth, which package buddy tells besides -/
structure ErrD (B : Nat) (ev : Nat → Addr) (w : World) : Prop where
  c : ErrC B ev w
  l5 : 1 < B
  c5 : w.cell? ⟨1, 0, Option.none⟩ = some (errV ev 5)
theorem ErrD.below {B : Nat} {ev : Nat → Addr} {w w' : World} (h : ErrD B ev w) (hb : Below B w w') : ErrD B ev w' :=
  ⟨h.c.below hb, h.l5, by rw [hb.cell (p := ⟨1, 0, Option.none⟩) h.l5]; exact h.c5⟩
theorem ErrD.z5 {B : Nat} {ev : Nat → Addr} {w : World} (h : ErrD B ev w) : 1 < w.heap.size := Nat.lt_of_lt_of_le h.l5 h.c.size
theorem ErrD.size {B : Nat} {ev : Nat → Addr} {w : World} (h : ErrD B ev w) : B ≤ w.heap.size := h.c.size

/-- all ten errors, and package errors' own variable -/
structure Errs (B : Nat) (ev : Nat → Addr) (w : World) : Prop where
  size : B ≤ w.heap.size
  glob : ∀ i, 1 ≤ i → i ≤ 10 → errG i < B
  cell : ∀ i, 1 ≤ i → i ≤ 10 → w.cell? ⟨errG i, 0, Option.none⟩ = some (errV ev i)
  inj : ∀ i j, 1 ≤ i → i ≤ 10 → 1 ≤ j → j ≤ 10 → ev i = ev j → i = j
  row : ∀ i, 1 ≤ i → i ≤ 10 → ∃ c t, w.heap[(ev i).block]? = some (.cells c t (0, 0))
  lt : ∀ i, 1 ≤ i → i ≤ 10 → (ev i).block < B
  globT : 10 < B
  typ : w.cell? ⟨10, 0, Option.none⟩ = some (.iface 160 (.agg #[.pointer (some ⟨11, 33, Option.none⟩)]))

theorem Errs.below {B : Nat} {ev : Nat → Addr} {w w' : World} (h : Errs B ev w) (hb : Below B w w') : Errs B ev w' :=
  ⟨Nat.le_trans h.size hb.size, h.glob, fun i a b => by rw [hb.cell (p := ⟨errG i, 0, Option.none⟩) (h.glob i a b)]; exact h.cell i a b, h.inj,
   fun i a b => by rw [hb.block _ (h.lt i a b)]; exact h.row i a b, h.lt, h.globT,
   by rw [hb.cell (p := ⟨10, 0, Option.none⟩) h.globT]; exact h.typ⟩
theorem Errs.c {B : Nat} {ev : Nat → Addr} {w : World} (h : Errs B ev w) : ErrC B ev w :=
  ⟨h.size, h.glob 2 (by decide) (by decide), h.glob 3 (by decide) (by decide), h.glob 4 (by decide) (by decide), h.cell 2 (by decide) (by decide), h.cell 3 (by decide) (by decide), h.cell 4 (by decide) (by decide)⟩
theorem Errs.d {B : Nat} {ev : Nat → Addr} {w : World} (h : Errs B ev w) : ErrD B ev w := ⟨h.c, h.glob 5 (by decide) (by decide), h.cell 5 (by decide) (by decide)⟩
/-- behind a contract that leaves older memory: cells and marks read as before (the walk takes both by itself) -/
theorem bcell {W w1 : World} {n : Nat} (hb : Below n W w1) : (∀ b o, b < n → w1.cell? ⟨b, o, Option.none⟩ = W.cell? ⟨b, o, Option.none⟩) ∧ (∀ b o, b < n → w1.frozen? ⟨b, o, Option.none⟩ = W.frozen? ⟨b, o, Option.none⟩) :=
  ⟨fun b o h => hb.cell (p := ⟨b, o, Option.none⟩) h, fun b o h => hb.frozen (p := ⟨b, o, Option.none⟩) h⟩
end Go.Proofs.YtigginpcokfihaaGreatDoor
