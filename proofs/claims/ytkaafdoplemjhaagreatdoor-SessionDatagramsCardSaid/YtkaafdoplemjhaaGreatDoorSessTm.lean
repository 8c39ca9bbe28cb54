/- A part of the proof that a session of datagrams answers as the reference (SessionDatagrams). Its contents: contracts of functions of the program, each stated with its premises. -/
import Derived.Test.YtkaafdoplemjhaaGreatDoorSessTa
import Derived.Test.YtkaafdoplemjhaaGreatDoorSessTk
import Derived.Test.YtkaafdoplemjhaaGreatDoorSessTl
namespace Go.Proofs.YtkaafdoplemjhaaGreatDoor
open Go
set_option maxRecDepth 100000
theorem tie_r5_is : tailOf 5 tieCode = .seq (.region 5 (opsOf (tailOf 5 tieCode)) false) (tailOf 6 tieCode) := by kernel_rfl
theorem tie_r5_called : calledIn (opsOf (tailOf 5 tieCode)) = [427] := by kernel_rfl
theorem tie_r5_a1 : ((opsOf (tailOf 5 tieCode)).toList.all fun o => !o.op.barredAtDoor) = true := by kernel_rfl
theorem tie_r5_a2 : ((opsOf (tailOf 5 tieCode)).isEmpty || !(storedIn (opsOf (tailOf 5 tieCode))).isEmpty || writesIn (opsOf (tailOf 5 tieCode)) != 0) = true := by kernel_rfl
theorem tie_r5_a3 : ((calledIn (opsOf (tailOf 5 tieCode))).all fun f => (Tryz.prog.closure f).all Tryz.prog.newOrTypeOf) = true := by rw [tie_r5_called]; simp only [List.all_cons, List.all_nil, tie_calls427, Bool.and_self]
theorem tie_r5_a5 : (writesIn (opsOf (tailOf 5 tieCode)) == 0) = true := by kernel_rfl
theorem tie_r5_a6 : (((opsOf (tailOf 5 tieCode)).toList.flatMap (·.op.globalsBeside)).isEmpty) = true := by kernel_rfl
theorem tie_r5_a4 : ((((opsOf (tailOf 5 tieCode)).toList.flatMap (·.op.globalsBeside)).eraseDups.all fun u => !Tryz.prog.bearsDeep u) || (storedIn (opsOf (tailOf 5 tieCode)) ++ (if writesIn (opsOf (tailOf 5 tieCode)) == 0 then [] else (stAfter 5 tieCode []).getLast?.toList)).all Tryz.prog.toldDeep) = true := by rw [List.isEmpty_iff.1 tie_r5_a6]; rfl
theorem tie_r5_a7 : decide ((storedIn (opsOf (tailOf 5 tieCode))).length ≤ 1) = true := by kernel_rfl
theorem tie_r5 : fitFirst Tryz.prog 1 (tailOf 5 tieCode) (stAfter 5 tieCode []) = true := first_of tie_r5_is (region_fit tie_r5_a1 tie_r5_a2 tie_r5_a3 tie_r5_a4 tie_r5_a5 tie_r5_a6 tie_r5_a7)
theorem tie_r6_is : tailOf 6 tieCode = .seq (.region 6 (opsOf (tailOf 6 tieCode)) false) (tailOf 7 tieCode) := by kernel_rfl
theorem tie_r6_called : calledIn (opsOf (tailOf 6 tieCode)) = [427] := by kernel_rfl
theorem tie_r6_a1 : ((opsOf (tailOf 6 tieCode)).toList.all fun o => !o.op.barredAtDoor) = true := by kernel_rfl
theorem tie_r6_a2 : ((opsOf (tailOf 6 tieCode)).isEmpty || !(storedIn (opsOf (tailOf 6 tieCode))).isEmpty || writesIn (opsOf (tailOf 6 tieCode)) != 0) = true := by kernel_rfl
theorem tie_r6_a3 : ((calledIn (opsOf (tailOf 6 tieCode))).all fun f => (Tryz.prog.closure f).all Tryz.prog.newOrTypeOf) = true := by rw [tie_r6_called]; simp only [List.all_cons, List.all_nil, tie_calls427, Bool.and_self]
theorem tie_r6_a5 : (writesIn (opsOf (tailOf 6 tieCode)) == 0) = true := by kernel_rfl
theorem tie_r6_a6 : (((opsOf (tailOf 6 tieCode)).toList.flatMap (·.op.globalsBeside)).isEmpty) = true := by kernel_rfl
theorem tie_r6_a4 : ((((opsOf (tailOf 6 tieCode)).toList.flatMap (·.op.globalsBeside)).eraseDups.all fun u => !Tryz.prog.bearsDeep u) || (storedIn (opsOf (tailOf 6 tieCode)) ++ (if writesIn (opsOf (tailOf 6 tieCode)) == 0 then [] else (stAfter 6 tieCode []).getLast?.toList)).all Tryz.prog.toldDeep) = true := by rw [List.isEmpty_iff.1 tie_r6_a6]; rfl
theorem tie_r6_a7 : decide ((storedIn (opsOf (tailOf 6 tieCode))).length ≤ 1) = true := by kernel_rfl
theorem tie_r6 : fitFirst Tryz.prog 1 (tailOf 6 tieCode) (stAfter 6 tieCode []) = true := first_of tie_r6_is (region_fit tie_r6_a1 tie_r6_a2 tie_r6_a3 tie_r6_a4 tie_r6_a5 tie_r6_a6 tie_r6_a7)
end Go.Proofs.YtkaafdoplemjhaaGreatDoor
