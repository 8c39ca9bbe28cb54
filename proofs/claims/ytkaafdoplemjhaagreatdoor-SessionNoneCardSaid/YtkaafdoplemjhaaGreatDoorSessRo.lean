/- A part of the proof that a nil session yields nothing (SessionNone). Its contents: contracts of functions of the program, each stated with its premises. -/
import Derived.Test.YtkaafdoplemjhaaGreatDoorSessRn
import Derived.Test.YtkaafdoplemjhaaGreatDoorSessKNone
namespace Go.Proofs.YtkaafdoplemjhaaGreatDoor
open Go
theorem none_named : Tryz.pinned.checked.prog.funcNamed Rows.sessionNoneRow.func = some 9 := by kernel_rfl
theorem none_inst : Tryz.f9.isInstance Tryz.pinned.checked.prog Rows.sessionNoneRow.origin Rows.sessionNoneRow.targs := of_decide_eq_true (by kernel_rfl)
theorem none_wrap : Tryz.f9.isWrapper Tryz.pinned.checked.prog Rows.sessionNoneRow.wrapper Rows.sessionNoneRow.mainSum := by
  unfold Func.isWrapper; first | (rw [if_pos (by decide +kernel)]; kernel_rfl) | (rw [if_neg (by decide +kernel)]; exact ⟨rfl, rfl⟩)
theorem sessionNone_holds : Rows.SessionNoneSaid :=
  OpenClaim.holds_of_wide 9 Tryz.f9 rfl rfl rfl rfl rfl rfl rfl ⟨rfl, rfl, rfl, rfl, rfl⟩ rfl rfl rfl rfl rfl none_named Tryz.func9 sessionNone_joined
    none_inst none_wrap (fun os started H enc _ => none_lifted os started H enc)
end Go.Proofs.YtkaafdoplemjhaaGreatDoor
