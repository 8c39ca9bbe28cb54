/- A part of the proof that a session of datagrams answers as the reference (SessionDatagrams). Its contents: contracts of functions of the program, each stated with its premises. -/
import Derived.Test.YtkaafdoplemjhaaGreatDoorCards
import Derived.SevenTiedAt
import Derived.KernelRfl
namespace Go.Proofs.YtkaafdoplemjhaaGreatDoor
open Go
set_option maxRecDepth 100000
theorem datagrams_wf : Rows.sessionDatagramsRow.wfByText (OpenSpec.ofChange Rows.sessionDatagramsSpec) = true := by kernel_rfl
theorem card_main : Tryz.pinned.checked.prog.mainIs = some (true, "7b94e99769615a8f83a946b6c6b4c2d129db9775491e9455fabb36baf755b247".toList) := by kernel_rfl
theorem card_looks : true = Tryz.pinned.checked.prog.looks [] := by kernel_rfl
theorem datagrams_stand : ([26, 27].all fun u => !Tryz.prog.wantsStandIn u) = true := by kernel_rfl
end Go.Proofs.YtkaafdoplemjhaaGreatDoor
