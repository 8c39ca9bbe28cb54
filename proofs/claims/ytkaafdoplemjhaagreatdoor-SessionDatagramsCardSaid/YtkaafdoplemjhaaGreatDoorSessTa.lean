/- A part of the proof that a session of datagrams answers as the reference (SessionDatagrams). Its contents: contracts of functions of the program, each stated with its premises. -/
import Derived.Test.YtkaafdoplemjhaaGreatDoorRows
import Derived.LaidByTextLater
import Derived.LaidOnce
import Derived.Test.YtkaafdoplemjhaaGreatDoorSessTk
namespace Go.Proofs.YtkaafdoplemjhaaGreatDoor
open Go
set_option maxRecDepth 100000
abbrev LT : List (String × DataW Unit) := [("internal/strconv.uint64pow10", Rows.laid_internal_strconv_uint64pow10), ("math/bits.deBruijn32tab", Rows.laid_math_bits_deBruijn32tab), ("math/bits.deBruijn64tab", Rows.laid_math_bits_deBruijn64tab)]
theorem tie_id : varsId Tryz.prog = 729 := by kernel_rfl
noncomputable def tieCode : Code := (Tryz.f729.body).getD .skip
theorem tieSome : ((Tryz.prog.funcs[varsId Tryz.prog]?).bind (·.body)) = some tieCode := by rw [tie_id, Tryz.func729]; rfl
noncomputable def tieStored : List Nat := (tieCode.laysInOrder []).getD []
theorem tieLays : tieCode.laysInOrder [] = some tieStored := by kernel_rfl
theorem tieApart : (tieStored.eraseDups.length == tieStored.length) = true := by kernel_rfl
theorem tie_hk : LT.map (fun x => Tryz.prog.kindOfLater x.1) = [LaidKind.data, .data, .data].map some := by kernel_rfl
end Go.Proofs.YtkaafdoplemjhaaGreatDoor
