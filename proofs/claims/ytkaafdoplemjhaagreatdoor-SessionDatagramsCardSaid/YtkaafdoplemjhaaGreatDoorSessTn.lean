/- A part of the proof that a session of datagrams answers as the reference (SessionDatagrams). Its contents: contracts of functions of the program, each stated with its premises. -/
import Derived.Test.YtkaafdoplemjhaaGreatDoorSessTa
import Derived.Test.YtkaafdoplemjhaaGreatDoorSessTk
namespace Go.Proofs.YtkaafdoplemjhaaGreatDoor
open Go
set_option maxRecDepth 100000
theorem tie_r7 : (tailOf 7 tieCode).regionsFit Tryz.prog (stAfter 7 tieCode []) = true := by kernel_rfl
end Go.Proofs.YtkaafdoplemjhaaGreatDoor
