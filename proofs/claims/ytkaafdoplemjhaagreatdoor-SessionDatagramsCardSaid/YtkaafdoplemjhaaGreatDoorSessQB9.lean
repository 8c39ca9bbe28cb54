/- Generic: 'for x := range f' where f yields nothing and leaves the world as it was; a function's end behind it. No program in sight. -/
import Derived.Test.YtkaafdoplemjhaaGreatDoorSessQA0
import Derived.Test.YtkaafdoplemjhaaGreatDoorSessQA2
import Derived.RangeFuncLeaves
import Derived.RangeFuncRecord
import Derived.RangeFuncIn
import Derived.RangeFuncNested
namespace Go.Proofs.Sess
open Go Go.RowKit
variable {P : Program}

/-- The iterator yields nothing. -/
theorem wp_rangeFunc_calm {g : Operand} {ps : Array Tmp} {assign body : Code} {Q : Exit → Act → World → Prop} {a : Act} {w : World} {f : Nat} {first : Array Value}
    (hg : a.eval g = .func (.func f) first #[]) (eg : ∀ args w, (callFunc f args).run P w = .ok (.enter f args) w)
    (hcall : ∀ (y : Value) (W : World), Keeps [] w W → Calls P f (first.push y) W fun e w' => (∃ v, e = .returned v) ∧ W = w')
    (hQ : ∀ W : World, Keeps [] w W → W.heap[w.heap.size]? = some (.deferred (some [])) → w.heap.size + 2 ≤ W.heap.size → Q .normal { a with defers := { target := .collected w.heap.size, args := #[] } :: a.defers } W) :
    (Code.rangeFunc g ps assign body).wp P Q a w := by
  refine (wpIn_wide (n := 3)).1 (wpIn_rangeFunc (F := Fence.wide) (n := 3) ?_)
  intro fn hfn
  obtain ⟨rec, hrec⟩ : ∃ rec : LoopState → Option Code → Loop, rec = fun st pe => { state := st, pending := pe, fn, tmps := a.tmps, params := ps, assign, body, defers := w.heap.size } := ⟨_, rfl⟩
  obtain ⟨W1, hW1⟩ : ∃ W1, (w.alloc (.deferred (some []))).alloc (.loop (rec .ready none)) = W1 := ⟨_, rfl⟩
  have hL1 : W1.heap[w.heap.size + 1]? = some (.loop (rec .ready none)) := by
    rw [← hW1]; have := World.alloc_heap_new (w.alloc (.deferred (some []))) (.loop (rec .ready none)); rwa [World.size_alloc] at this
  have hK1 : W1.heap[w.heap.size]? = some (.deferred (some [])) := by
    rw [← hW1]; exact (Below.heap_alloc _ _ _ (by simp)).trans (World.alloc_heap_new w _)
  have hkeep : Keeps [] w W1 := by rw [← hW1]; exact ((Keeps.refl _ _).alloc _).alloc _
  have hsz : W1.heap.size = w.heap.size + 2 := by rw [← hW1]; simp
  refine ⟨w.heap.size + 1, [{ target := .collected w.heap.size, args := #[] }], W1, { target := .fn (.func f) #[], args := first.push (.func (.yield (w.heap.size + 1)) #[] #[]) }, W1, f,
    first.push (.func (.yield (w.heap.size + 1)) #[] #[]), W1, ?_, ?_, fun _ _ => trivial, ?_, fun _ => by omega, ?_⟩
  · rw [← hW1, hrec]; exact run_enterLoop_outer _ _ _ _ _
  · simp only [resolve, hg]
    simp [go_sem]
  · simp [invoke, go_sem, eg]
  · refine callsIn_wide.2 ((hcall _ _ hkeep).mono ?_)
    rintro e w' ⟨⟨v, rfl⟩, rfl⟩
    refine ⟨none, _, by have := run_endLoop (P := P) hL1 (by rw [hrec]; simp); rw [hrec] at this; exact this, ?_⟩
    refine hQ _ (hkeep.trans (T := [w.heap.size + 1]) ⟨rfl, rfl, rfl, by simp [World.putObj], fun k hk hn => World.putObj_heap_other (fun e => hn (by simp [e]))⟩ (by simp)) ((World.putObj_heap_other (by omega)).trans hK1) (by simp [World.putObj]; omega)
end Go.Proofs.Sess
