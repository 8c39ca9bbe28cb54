/- A part of the proof that a session of datagrams answers as the reference (SessionDatagrams). Its contents: contracts of functions of the program, each stated with its premises. -/
import Derived.Test.YtkaafdoplemjhaaGreatDoorSessTl
import Derived.Test.YtkaafdoplemjhaaGreatDoorSessTm
import Derived.Test.YtkaafdoplemjhaaGreatDoorSessTn
namespace Go.Proofs.YtkaafdoplemjhaaGreatDoor
open Go
theorem tie_t6 : tailOf 1 (tailOf 5 tieCode) = tailOf 6 tieCode := by rw [tie_r5_is]; rfl
theorem tie_t7 : tailOf 1 (tailOf 6 tieCode) = tailOf 7 tieCode := by rw [tie_r6_is]; rfl
theorem stAfter_next : ∀ (n : Nat) (c : Code) (st : List Nat), stAfter (n + 1) c st = stAfter 1 (tailOf n c) (stAfter n c st)
  | 0, c, st => rfl
  | n + 1, c, st => by
    cases c with
    | seq a b => simpa [stAfter, tailOf] using stAfter_next n b ((a.laysInOrder st).getD st)
    | _ => rfl
theorem tie_c3 : (tieCode.regionsFit Tryz.prog []) = true :=
  fit_of_first 5 _ _ tie_r1 (fit_of_first 1 _ _ tie_r5 (by
    rw [tie_t6, ← stAfter_next 5]
    exact fit_of_first 1 _ _ tie_r6 (by rw [tie_t7, ← stAfter_next 6]; exact tie_r7)))
end Go.Proofs.YtkaafdoplemjhaaGreatDoor
