/- A part of the proof that a session of datagrams answers as the reference (SessionDatagrams). Its contents: contracts of functions of the program, each stated with its premises. -/
import Derived.Test.YtkaafdoplemjhaaGreatDoorSessTa
namespace Go.Proofs.YtkaafdoplemjhaaGreatDoor
open Go
set_option maxRecDepth 100000
theorem tieAll : (LT.all fun x => (Tryz.prog.globalNamed x.1).any fun v => (tieStored.contains v == (Tryz.prog.kindBase x.1 != some .zero)) && callsFit tieCode v (Tryz.prog.kindBase x.1) &&
          ((tieCode.storedByHandle Tryz.prog).contains v == (Tryz.prog.kindBase x.1 == some .handle)) && (x.2.handleName?.isSome == (Tryz.prog.kindBase x.1 == some .handle || Tryz.prog.kindBase x.1 == some .funcs)) &&
          (Tryz.prog.kindBase x.1 != some .handle || handlePair x) && (x.2.funcsIn?.isSome == (Tryz.prog.kindBase x.1 == some .funcs)) && mapsFit tieCode v x.2 (Tryz.prog.kindBase x.1)) = true := by kernel_rfl
end Go.Proofs.YtkaafdoplemjhaaGreatDoor
