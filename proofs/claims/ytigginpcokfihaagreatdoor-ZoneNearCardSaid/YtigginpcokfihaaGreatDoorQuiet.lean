/- A region that draws its order, whose operations only read and whose callees leave older memory as it was: one walk in the order of the text. -/
import Derived.BigQuiet
import Derived.Deep.RegionWith
import Derived.Below
namespace Go.Proofs.YtigginpcokfihaaGreatDoor
open Go.RowKit

/-- a world behind w: all that was in w is as it was -/
structure Behind (w : World) where
  w' : World
  h : Below w.heap.size w w'

instance behindNonempty (w : World) : Nonempty (Behind w) := ⟨⟨w, Below.refl _ _⟩⟩

theorem behind_out {w w' : World} (h : ∃ p : Behind w, w' = p.w') : Below w.heap.size w w' := by
  obtain ⟨p, hp⟩ := h
  rw [hp]; exact p.h

theorem wp_region_behind {P : Program} {id : Nat} {Q : Exit → Act → World → Prop} {a : Act} {w : World} {l : List Oper} (hm : P.follows .mixedOrders = true) (hB : Region.lexB .any l.toArray = true)
    (h : wpQuiet P l.toArray (fun w' => ∃ p : Behind w, w' = p.w') (fun a' => ∀ w', (∃ p : Behind w, w' = p.w') → Q .normal a' w') l a) : (Code.region id l.toArray true).wp P Q a w :=
  wp_region_quiet (C := fun w' => ∃ p : Behind w, w' = p.w') hm hB ⟨⟨w.drew, (Below.refl _ _).drew⟩, rfl⟩ (by simpa using h)

@[go_sem] theorem Behind.cell {w : World} (p : Behind w) (b o : Nat) (h : b < w.heap.size) : p.w'.cell? ⟨b, o, none⟩ = w.cell? ⟨b, o, none⟩ := p.h.cell (p := ⟨b, o, none⟩) h
@[go_sem] theorem Behind.frozen {w : World} (p : Behind w) (b o : Nat) (h : b < w.heap.size) : p.w'.frozen? ⟨b, o, none⟩ = w.frozen? ⟨b, o, none⟩ := p.h.frozen (p := ⟨b, o, none⟩) h

/-- a callee's contract, met behind w -/
theorem _root_.Go.Calls.behind {P : Program} {f : FuncId} {args : Array Value} {w : World} {p : Behind w} {v : Value}
    (h : Calls P f args p.w' fun e w' => e = .returned v ∧ Below p.w'.heap.size p.w' w') : Calls P f args p.w' fun e w'' => e = .returned v ∧ ∃ q : Behind w, w'' = q.w' :=
  h.mono fun _ w'' ⟨he, hb⟩ => ⟨he, ⟨w'', p.h.trans (hb.mono p.h.size)⟩, rfl⟩
theorem _root_.Go.Calls.behind_same {P : Program} {f : FuncId} {args : Array Value} {w : World} {p : Behind w} {v : Value}
    (h : Calls P f args p.w' fun e w' => e = .returned v ∧ p.w' = w') : Calls P f args p.w' fun e w'' => e = .returned v ∧ ∃ q : Behind w, w'' = q.w' :=
  h.mono fun _ _ ⟨he, hb⟩ => ⟨he, p, hb.symm⟩
end Go.Proofs.YtigginpcokfihaaGreatDoor
