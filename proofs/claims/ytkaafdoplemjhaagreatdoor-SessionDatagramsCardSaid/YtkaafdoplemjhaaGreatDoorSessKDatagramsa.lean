/- A part of the proof that a session of datagrams answers as the reference (SessionDatagrams). Its contents: contracts of functions of the program, each stated with its premises. -/
import Derived.Test.YtkaafdoplemjhaaGreatDoorSessRa
namespace Go.Proofs.YtkaafdoplemjhaaGreatDoor
open Go
set_option maxRecDepth 100000
theorem sessionDatagrams_k0 : (Rows.sessionDatagramsRow.wf (OpenSpec.ofChange Rows.sessionDatagramsSpec)) = true := by kernel_rfl
theorem sessionDatagrams_k3 : (Tryz.f4.params.all (Tryz.prog.readableRec ·)) = true := by kernel_rfl
theorem sessionDatagrams_k4 : (namedTie Tryz.prog Rows.sessionDatagramsRow.named Rows.sessionDatagramsSpec.vars) = true := by kernel_rfl
theorem sessionDatagrams_k5 : ((Rows.sessionDatagramsRow.stops == [])) = true := by kernel_rfl
theorem sessionDatagrams_k6 : ((Tryz.prog.stops == [])) = true := by kernel_rfl
theorem sessionDatagrams_k7 : ((Rows.sessionDatagramsRow.knobs == [])) = true := by kernel_rfl
theorem sessionDatagrams_k8 : ((Tryz.prog.stopKnobs == [])) = true := by kernel_rfl
theorem sessionDatagrams_k13 : ((Rows.sessionDatagramsRow.maps == (Tryz.f4.params.toList ++ Rows.sessionDatagramsSpec.plain.varTypes Tryz.prog).any (Tryz.prog.mapsRec ·))) = true := by kernel_rfl
theorem sessionDatagrams_k14 : ((Rows.sessionDatagramsRow.ifaces == (Tryz.f4.params.toList ++ Rows.sessionDatagramsSpec.plain.varTypes Tryz.prog).any (Tryz.prog.ifacesRec ·))) = true := by kernel_rfl
theorem sessionDatagrams_k15 : ((Rows.sessionDatagramsRow.mapsOut == Tryz.prog.mapsAmong Tryz.f4.resultTypes.toList)) = true := by kernel_rfl
theorem sessionDatagrams_k16 : ((Rows.sessionDatagramsRow.loops == (Tryz.f4.params.toList ++ Rows.sessionDatagramsSpec.plain.varTypes Tryz.prog).any (Tryz.prog.loopsFrom ·))) = true := by kernel_rfl
theorem sessionDatagrams_k17 : ((Rows.sessionDatagramsRow.wideKeys == (Tryz.f4.params.toList ++ Rows.sessionDatagramsSpec.plain.varTypes Tryz.prog ++ Tryz.f4.resultTypes.toList).any (Tryz.prog.wideKeysFrom ·))) = true := by kernel_rfl
theorem sessionDatagrams_k18 : (Rows.sessionDatagramsSpec.vars.all (Tryz.prog.varReadable ·)) = true := by kernel_rfl
theorem sessionDatagrams_k19 : (Tryz.f4.resultTypes.all (fun t => Tryz.prog.readableRec t && decide (t < Tryz.prog.types.size))) = true := by kernel_rfl
theorem sessionDatagrams_k20 : ((Rows.sessionDatagramsRow.ifacesOut == Tryz.f4.resultTypes.toList.any (Tryz.prog.ifacesRec ·))) = true := by kernel_rfl
theorem sessionDatagrams_k21 : ((Rows.sessionDatagramsRow.loopsOut == Tryz.f4.resultTypes.toList.any (Tryz.prog.loopsFrom ·))) = true := by kernel_rfl
theorem sessionDatagrams_k23 : (Rows.sessionDatagramsRow.shortTexts.isNone) = true := by kernel_rfl
theorem sessionDatagrams_k27 : ((Tryz.prog.make == some Rows.sessionDatagramsRow.make)) = true := by kernel_rfl
theorem sessionDatagrams_k28 : ((Rows.sessionDatagramsRow.kinds == (if Rows.sessionDatagramsRow.domain.isEmpty then [] else Tryz.f4.params.toList.map fun t => match Tryz.prog.underlying t with | some (.int k) => some k | _ => none))) = true := by kernel_rfl
theorem sessionDatagrams_k29 : ((Rows.sessionDatagramsRow.pinned == Rows.sessionDatagramsRow.pinnedBy)) = true := by kernel_rfl
theorem sessionDatagrams_k30 : ((Rows.sessionDatagramsRow.veiled == (Tryz.f4.params.toList ++ Rows.sessionDatagramsSpec.plain.varTypes Tryz.prog ++ Tryz.f4.resultTypes.toList).any (Tryz.prog.veiledRec ·))) = true := by kernel_rfl
theorem sessionDatagrams_k31 : (Rows.sessionDatagramsRow.veiledFits Tryz.prog Tryz.f4.params.toList (Tryz.f4.params.toList ++ Rows.sessionDatagramsSpec.plain.varTypes Tryz.prog ++ Tryz.f4.resultTypes.toList)) = true := by kernel_rfl
end Go.Proofs.YtkaafdoplemjhaaGreatDoor
