/- A part of the proof that a nil session yields nothing (SessionNone). Its contents: contracts of functions of the program, each stated with its premises. -/
import Derived.Test.YtkaafdoplemjhaaGreatDoorSessRa
namespace Go.Proofs.YtkaafdoplemjhaaGreatDoor
open Go
set_option maxRecDepth 100000
theorem sessionNone_k0 : (Rows.sessionNoneRow.wf (OpenSpec.ofChange Rows.sessionNoneSpec)) = true := by kernel_rfl
theorem sessionNone_k3 : (Tryz.f9.params.all (Tryz.prog.readableRec ·)) = true := by kernel_rfl
theorem sessionNone_k4 : (namedTie Tryz.prog Rows.sessionNoneRow.named Rows.sessionNoneSpec.vars) = true := by kernel_rfl
theorem sessionNone_k5 : ((Rows.sessionNoneRow.stops == [])) = true := by kernel_rfl
theorem sessionNone_k6 : ((Tryz.prog.stops == [])) = true := by kernel_rfl
theorem sessionNone_k7 : ((Rows.sessionNoneRow.knobs == [])) = true := by kernel_rfl
theorem sessionNone_k8 : ((Tryz.prog.stopKnobs == [])) = true := by kernel_rfl
theorem sessionNone_k13 : ((Rows.sessionNoneRow.maps == (Tryz.f9.params.toList ++ Rows.sessionNoneSpec.plain.varTypes Tryz.prog).any (Tryz.prog.mapsRec ·))) = true := by kernel_rfl
theorem sessionNone_k14 : ((Rows.sessionNoneRow.ifaces == (Tryz.f9.params.toList ++ Rows.sessionNoneSpec.plain.varTypes Tryz.prog).any (Tryz.prog.ifacesRec ·))) = true := by kernel_rfl
theorem sessionNone_k15 : ((Rows.sessionNoneRow.mapsOut == Tryz.prog.mapsAmong Tryz.f9.resultTypes.toList)) = true := by kernel_rfl
theorem sessionNone_k16 : ((Rows.sessionNoneRow.loops == (Tryz.f9.params.toList ++ Rows.sessionNoneSpec.plain.varTypes Tryz.prog).any (Tryz.prog.loopsFrom ·))) = true := by kernel_rfl
theorem sessionNone_k17 : ((Rows.sessionNoneRow.wideKeys == (Tryz.f9.params.toList ++ Rows.sessionNoneSpec.plain.varTypes Tryz.prog ++ Tryz.f9.resultTypes.toList).any (Tryz.prog.wideKeysFrom ·))) = true := by kernel_rfl
theorem sessionNone_k18 : (Rows.sessionNoneSpec.vars.all (Tryz.prog.varReadable ·)) = true := by kernel_rfl
theorem sessionNone_k19 : (Tryz.f9.resultTypes.all (fun t => Tryz.prog.readableRec t && decide (t < Tryz.prog.types.size))) = true := by kernel_rfl
theorem sessionNone_k20 : ((Rows.sessionNoneRow.ifacesOut == Tryz.f9.resultTypes.toList.any (Tryz.prog.ifacesRec ·))) = true := by kernel_rfl
theorem sessionNone_k21 : ((Rows.sessionNoneRow.loopsOut == Tryz.f9.resultTypes.toList.any (Tryz.prog.loopsFrom ·))) = true := by kernel_rfl
theorem sessionNone_k23 : (Rows.sessionNoneRow.shortTexts.isNone) = true := by kernel_rfl
theorem sessionNone_k27 : ((Tryz.prog.make == some Rows.sessionNoneRow.make)) = true := by kernel_rfl
theorem sessionNone_k28 : ((Rows.sessionNoneRow.kinds == (if Rows.sessionNoneRow.domain.isEmpty then [] else Tryz.f9.params.toList.map fun t => match Tryz.prog.underlying t with | some (.int k) => some k | _ => none))) = true := by kernel_rfl
theorem sessionNone_k29 : ((Rows.sessionNoneRow.pinned == Rows.sessionNoneRow.pinnedBy)) = true := by kernel_rfl
theorem sessionNone_k30 : ((Rows.sessionNoneRow.veiled == (Tryz.f9.params.toList ++ Rows.sessionNoneSpec.plain.varTypes Tryz.prog ++ Tryz.f9.resultTypes.toList).any (Tryz.prog.veiledRec ·))) = true := by kernel_rfl
theorem sessionNone_k31 : (Rows.sessionNoneRow.veiledFits Tryz.prog Tryz.f9.params.toList (Tryz.f9.params.toList ++ Rows.sessionNoneSpec.plain.varTypes Tryz.prog ++ Tryz.f9.resultTypes.toList)) = true := by kernel_rfl
end Go.Proofs.YtkaafdoplemjhaaGreatDoor
