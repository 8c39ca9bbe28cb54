/- A part of the proof that a session of datagrams answers as the reference (SessionDatagrams). Its contents: contracts of functions of the program, each stated with its premises. -/
import Derived.Test.YtkaafdoplemjhaaGreatDoorSessTa
namespace Go.Proofs.YtkaafdoplemjhaaGreatDoor
open Go
set_option maxRecDepth 100000
theorem tie_hd0 : ∀ os tape, varsDone Tryz.prog 400 729 os tape = true := fun _ _ => by kernel_rfl
theorem tie_hd : ∀ os tape, varsDone Tryz.prog 400 (varsId Tryz.prog) os tape = true := by rw [tie_id]; exact tie_hd0
end Go.Proofs.YtkaafdoplemjhaaGreatDoor
