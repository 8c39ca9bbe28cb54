/- A part of the proof that a session of datagrams answers as the reference (SessionDatagrams). Its contents: contracts of functions of the program, each stated with its premises. -/
import Derived.Test.YtkaafdoplemjhaaGreatDoorSessTa
namespace Go.Proofs.YtkaafdoplemjhaaGreatDoor
open Go
set_option maxRecDepth 100000
theorem tie_c1 : (!tieCode.unfollowedBeside Tryz.prog) = true := by kernel_rfl
theorem tie_c2 : (tieCode.tempsApart 0).isSome = true := by kernel_rfl
end Go.Proofs.YtkaafdoplemjhaaGreatDoor
