/- A store into a map in two steps, as an assignment of several entries makes it: the entry first, then its value. -/
import Derived.Test.YtcooflachcimbaaDoorBudK
import Derived.WideKeyEntry
namespace Go.Proofs.YtcooflachcimbaaDoor
open Go.RowKit Go.Maps Go.ChangeMaps Go.ChangeShapes Go.WideElems
set_option linter.unusedSimpArgs false

theorem setBlock_twice (w : World) (b : Nat) (x y : Obj) : setBlock (setBlock w b x) b y = setBlock w b y := by
  simp [setBlock]

/-- both steps, at the keys of this program -/
theorem ent_steps {w : World} {b : Nat} {es : Array MapEntry} {clock : Nat} (hb : w.heap[b]? = some (.map es clock)) (F : Fit Tryd.prog 3 (plainElem (H := Unit) Tryd.prog 3) es clock)
    {key : Value} {kl : Lit} (hkey : keyOf Tryd.prog 3 key = some kl) (val : Value) :
    ∃ (v0 : Value) (st : Nat) (es1 : Array MapEntry) (c1 : Nat) (es2 : Array MapEntry) (c2 : Nat), (Instr.mapEntry 84 (.map (some b)) key).run Tryd.prog w = .ok (.tuple #[v0, .int .i64 st]) (setBlock w b (.map es1 c1)) ∧
      (∀ w2 : World, w2.heap[b]? = some (.map es1 c1) → (Instr.entryStore 84 (.map (some b)) (.int .i64 st) val).run Tryd.prog w2 = .ok () (setBlock w2 b (.map es2 c2))) ∧
      (Instr.mapUpdate 84 (.map (some b)) key val).run Tryd.prog w = .ok () (setBlock w b (.map es2 c2)) := by
  have K := keyInt
  have ht := Tryd.underlying84
  have zi := fun u : World => zeroInt u
  obtain ⟨s1, s2, _⟩ := F.stamped
  rcases K.find w hkey es.toList F.keys with ⟨h1, h2⟩ | ⟨j, e0, h1, h2, h3⟩
  · have hidx : (es.push ⟨key, .int .i64 0, clock⟩).findIdx? (fun e => ((e.born : Nat) : Int) == ((clock : Nat) : Int)) = some es.size := by
      rw [findIdx_arr]
      refine findIdx_born (l := (es.push ⟨key, .int .i64 0, clock⟩).toList) (j := es.size) (e0 := ⟨key, .int .i64 0, clock⟩) ?_ (by simp)
      simp only [Array.toList_push, List.map_append, List.map_cons, List.map_nil]
      refine List.nodup_append.2 ⟨s2, by simp, fun a ha c hc e1 => ?_⟩
      obtain ⟨x, hx, rfl⟩ := List.mem_map.1 ha
      have := s1 x hx
      simp at hc
      omega
    have hmod : (es.push ⟨key, .int .i64 0, clock⟩).modify es.size (fun e => { e with val := val }) = es.push ⟨key, val, clock⟩ := by
      apply Array.ext'
      rw [Array.toList_modify, Array.toList_push, Array.toList_push, ← Array.length_toList, modify_last]
    refine ⟨.int .i64 0, clock, es.push ⟨key, .int .i64 0, clock⟩, clock + 1, es.push ⟨key, val, clock⟩, clock + 1, ?_, fun w2 hw2 => ?_, ?_⟩
    · simp [Instr.mapEntry, run_underlying ht, MapKept.run_getObj_map hb, K.check w false hkey, h1, zi, MapKept.run_setObj_map _ hb, Result.andThen, setBlock, goInt]
    · simp [Instr.entryStore, MapKept.run_getObj_map hw2, asInt, asIntOf, goInt, hidx, hmod, MapKept.run_setObj_map _ hw2, Result.andThen, setBlock]
    · simp [Instr.mapUpdate, run_underlying ht, MapKept.run_getObj_map hb, K.check w false hkey, h1, MapKept.run_setObj_map _ hb, Result.andThen, setBlock]
  · have hj : es[j]? = some e0 := by simpa using h2
    have hsame : es.modify j (fun e => { e with key := key }) = es := by
      apply Array.ext'
      rw [Array.toList_modify, modify_eq_set _ _ _ _ h2]
      have : ({ e0 with key := key } : MapEntry) = e0 := by rw [← h3]
      rw [this]
      exact set_self _ _ _ h2
    have hidx : es.findIdx? (fun e => ((e.born : Nat) : Int) == ((e0.born : Nat) : Int)) = some j := by
      rw [findIdx_arr]
      exact findIdx_born s2 h2
    have hmod : es.modify j (fun e => { e with val := val }) = es.modify j (fun e' => { e' with key := key, val := val }) := by
      apply Array.ext'
      rw [Array.toList_modify, Array.toList_modify, modify_eq_set _ _ _ _ h2, modify_eq_set _ _ _ _ h2, ← h3]
    refine ⟨e0.val, e0.born, es, clock, es.modify j (fun e' => { e' with key := key, val := val }), clock, ?_, fun w2 hw2 => ?_, ?_⟩
    · simp [Instr.mapEntry, run_underlying ht, MapKept.run_getObj_map hb, K.check w false hkey, h1, hj, h3, K.stays w hkey, hsame, MapKept.run_setObj_map _ hb, Result.andThen, setBlock, goInt]
    · simp [Instr.entryStore, MapKept.run_getObj_map hw2, asInt, asIntOf, goInt, hidx, hmod, MapKept.run_setObj_map _ hw2, Result.andThen, setBlock]
    · simp [Instr.mapUpdate, run_underlying ht, MapKept.run_getObj_map hb, K.check w false hkey, h1, hj, h3, K.stays w hkey, MapKept.run_setObj_map _ hb, Result.andThen, setBlock]

theorem setBlock_keep {w : World} {b : Nat} {es : Array MapEntry} {c : Nat} (o : Obj) : w.heap[b]? = some (.map es c) → Keep [b] w (setBlock w b o) := fun h =>
  ⟨rfl, rfl, rfl, by simp [setBlock], fun i _ hn => heap_setBlock_other h _ (by simpa using hn)⟩
/-- 'm[a], .. = k, ..', step by step -/
theorem MapB.put2 {w : World} {b : Nat} {l : List (Int × Int)} (h : MapB w b l) {a k : Int} (hr : 0 ≤ a ∧ a < 256 ∧ 0 ≤ k ∧ k ≤ 6) (hf : (putL a k l).length ≤ 256) :
    ∃ v0 st w1 w2, (Instr.mapEntry 84 (.map (some b)) (.int .i64 a)).run Tryd.prog w = .ok (.tuple #[v0, .int .i64 st]) w1 ∧ (Instr.entryStore 84 (.map (some b)) (.int .i64 st) (.int .i64 k)).run Tryd.prog w1 = .ok () w2 ∧
      MapB w2 b (putL a k l) ∧ Keep [b] w w1 ∧ Keep [b] w w2 := by
  obtain ⟨w', hrun, hput, _⟩ := h.put hr hf
  obtain ⟨es, clock, hb, F, _, _⟩ := h.own
  obtain ⟨v0, st, es1, c1, es2, c2, q1, q2, q3⟩ := ent_steps hb F (keyOf_int_mk Tryd.underlying3 (wfInt hr.1 hr.2.1)) (.int .i64 k)
  have hw : setBlock w b (.map es2 c2) = w' := by
    rw [hrun] at q3
    cases q3
    rfl
  have q4 := q2 (setBlock w b (.map es1 c1)) (heap_setBlock_same hb _)
  rw [setBlock_twice, hw] at q4
  exact ⟨v0, st, _, w', q1, q4, hput, setBlock_keep _ hb, hw ▸ setBlock_keep _ hb⟩
end Go.Proofs.YtcooflachcimbaaDoor
