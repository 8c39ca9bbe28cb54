/- A part of the proof that a session of datagrams answers as the reference (SessionDatagrams). Its contents: contracts of functions of the program, each stated with its premises. -/
import Derived.Test.YtkaafdoplemjhaaGreatDoorSessRd
import Derived.Test.YtkaafdoplemjhaaGreatDoorSessKDatagrams
namespace Go.Proofs.YtkaafdoplemjhaaGreatDoor
open Go
theorem datagrams_named : Tryz.pinned.checked.prog.funcNamed Rows.sessionDatagramsRow.func = some 4 := by kernel_rfl
theorem datagrams_inst : Tryz.f4.isInstance Tryz.pinned.checked.prog Rows.sessionDatagramsRow.origin Rows.sessionDatagramsRow.targs := of_decide_eq_true (by kernel_rfl)
theorem datagrams_wrap : Tryz.f4.isWrapper Tryz.pinned.checked.prog Rows.sessionDatagramsRow.wrapper Rows.sessionDatagramsRow.mainSum := by
  unfold Func.isWrapper; first | (rw [if_pos (by decide +kernel)]; kernel_rfl) | (rw [if_neg (by decide +kernel)]; exact ⟨rfl, rfl⟩)
theorem sessionDatagrams_holds : Rows.SessionDatagramsSaid :=
  OpenClaim.holds_of_wide 4 Tryz.f4 rfl rfl rfl rfl rfl rfl rfl ⟨rfl, rfl, rfl, rfl, rfl⟩ rfl rfl rfl rfl rfl datagrams_named Tryz.func4 sessionDatagrams_joined
    datagrams_inst datagrams_wrap (fun os started H enc _ => datagrams_lifted os started H enc)
end Go.Proofs.YtkaafdoplemjhaaGreatDoor
