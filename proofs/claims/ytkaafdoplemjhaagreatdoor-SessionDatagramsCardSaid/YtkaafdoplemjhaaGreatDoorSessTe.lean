/- A part of the proof that a session of datagrams answers as the reference (SessionDatagrams). Its contents: contracts of functions of the program, each stated with its premises. -/
import Derived.Test.YtkaafdoplemjhaaGreatDoorSessTa
namespace Go.Proofs.YtkaafdoplemjhaaGreatDoor
open Go
set_option maxRecDepth 100000
theorem tie_hw : Tryz.prog.worded (varsWordLater true) = true := by kernel_rfl
theorem tie_hw' : Tryz.prog.worded (varsWordLater !true) = false := by kernel_rfl
theorem tie_hroot : Tryz.prog.worded rootWordLater = true := by kernel_rfl
theorem tie_hg : (Tryz.prog.funcNamed "gosem.cut.vars").isSome = true := by kernel_rfl
theorem noOwnUnsafe : Tryz.pinned.checked.prog.headLifts.contains "ownunsafe" = false := by kernel_rfl
theorem tie_fit : Tryz.pinned.checked.prog.funcsFit LT = true := by kernel_rfl
theorem tie_hp : (LT.all fun x => x.2.handleName?.isNone) = true := by kernel_rfl
end Go.Proofs.YtkaafdoplemjhaaGreatDoor
