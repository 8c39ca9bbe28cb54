/- A part of the proof that a session of datagrams answers as the reference (SessionDatagrams). Its contents: contracts of functions of the program, each stated with its premises. -/
import Derived.Test.YtkaafdoplemjhaaGreatDoorSessTa
namespace Go.Proofs.YtkaafdoplemjhaaGreatDoor
open Go
set_option maxRecDepth 100000
theorem tie_h20 : ∀ os tape, (DataW.laidRun Tryz.prog (varsWorld Tryz.prog 400 729 os tape).memory 8 (LT.map (·.1))).map (fun x => decide x.2.Nodup && laidRowsB Tryz.prog (varsWorld Tryz.prog 400 729 os tape).memory x.2) = some true := fun _ _ => by kernel_rfl
theorem tie_h2 : ∀ os tape, (DataW.laidRun Tryz.prog (varsWorld Tryz.prog 400 (varsId Tryz.prog) os tape).memory 8 (LT.map (·.1))).map (fun x => decide x.2.Nodup && laidRowsB Tryz.prog (varsWorld Tryz.prog 400 (varsId Tryz.prog) os tape).memory x.2) = some true := by rw [tie_id]; exact tie_h20
end Go.Proofs.YtkaafdoplemjhaaGreatDoor
