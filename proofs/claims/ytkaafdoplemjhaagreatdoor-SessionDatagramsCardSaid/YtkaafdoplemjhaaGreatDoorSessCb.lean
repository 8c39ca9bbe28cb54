/- A part of the proof that a session of datagrams answers as the reference (SessionDatagrams). Its contents: contracts of functions of the program, each stated with its premises. -/
import Derived.Test.YtkaafdoplemjhaaGreatDoorRows
import Derived.KernelRfl
import GoSem.ClaimSeven
namespace Go.Proofs.YtkaafdoplemjhaaGreatDoor
open Go
set_option maxRecDepth 100000
theorem nobody_goes : (Tryz.prog.funcs.toList.all fun fn => !fn.goes) = true := by kernel_rfl
theorem goesBy_false (c : OpenClaim) (h : c.start = .entering) : false = c.goesBy Tryz.pinned.checked.prog := by
  have hall : ∀ g : Nat, (Tryz.prog.funcs[g]?).any Func.goes = false := fun g => by
    cases hg : Tryz.prog.funcs[g]? with
    | none => rfl
    | some fn =>
      have hm : fn ∈ Tryz.prog.funcs.toList := by
        have := Array.getElem?_eq_some_iff.1 hg
        obtain ⟨hl, he⟩ := this
        rw [← he]
        exact Array.getElem_mem_toList hl
      have := List.all_eq_true.1 nobody_goes fn hm
      simpa using this
  have hany : Tryz.prog.funcs.any Func.goes = false := by
    rw [← Array.any_toList, List.any_eq_false]
    intro fn hm
    have := List.all_eq_true.1 nobody_goes fn hm
    simpa using this
  have hgo : ∀ f : Nat, Tryz.prog.goes f = false := fun f => by
    unfold Program.goes
    rw [hany, Bool.and_false, Bool.or_false, List.any_eq_false]
    intro g _
    rw [hall g]
    simp
  show false = (Tryz.prog.goesFrom c.func || (match c.start with | .entering => false | _ => Tryz.prog.inits.toList.any Tryz.prog.goes))
  rw [h]
  unfold Program.goesFrom
  cases Tryz.prog.funcNamed c.func with
  | none => rfl
  | some f => simp [hgo f]
end Go.Proofs.YtkaafdoplemjhaaGreatDoor
