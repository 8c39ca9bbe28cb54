/- A part of the proof that a session of datagrams answers as the reference (SessionDatagrams). Its contents: contracts of functions of the program, each stated with its premises. -/
import Derived.Test.YtkaafdoplemjhaaGreatDoorSessTa
namespace Go.Proofs.YtkaafdoplemjhaaGreatDoor
open Go
set_option maxRecDepth 100000
theorem tie_h10 : ∀ os tape, (DataW.laidRun Tryz.prog (varsWorld Tryz.prog 400 729 os tape).memory 8 (LT.map (·.1))).map (·.1) = some LT := fun _ _ => by kernel_rfl
theorem tie_h1 : ∀ os tape, (DataW.laidRun Tryz.prog (varsWorld Tryz.prog 400 (varsId Tryz.prog) os tape).memory 8 (LT.map (·.1))).map (·.1) = some LT := by rw [tie_id]; exact tie_h10
end Go.Proofs.YtkaafdoplemjhaaGreatDoor
