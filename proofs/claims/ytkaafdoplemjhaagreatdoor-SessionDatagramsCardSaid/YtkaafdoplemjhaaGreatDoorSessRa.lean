/- A part of the proof that a session of datagrams answers as the reference (SessionDatagrams). Its contents: contracts of functions of the program, each stated with its premises. -/
import Derived.Test.YtkaafdoplemjhaaGreatDoorRows
import Derived.Lay
import Derived.WalkKit
import Derived.ProofKit
import Derived.OpenShut
import Derived.LaidMore
import Derived.Carry
import Derived.SizedLaws
import Derived.ClosedOfChecked
namespace Go.Proofs.YtkaafdoplemjhaaGreatDoor
open Go
abbrev LV : List (String × DataW Unit) := [("internal/strconv.uint64pow10", Rows.laid_internal_strconv_uint64pow10), ("math/bits.deBruijn32tab", Rows.laid_math_bits_deBruijn32tab), ("math/bits.deBruijn64tab", Rows.laid_math_bits_deBruijn64tab)]
/-- The listed variables can be laid. -/
theorem layFits (os : Os) : (World.holding Tryz.prog os ⟨#[], #[], []⟩).layFits Tryz.prog LV [] = true := by kernel_rfl
theorem layIfaces (os : Os) : (World.holding Tryz.prog os ⟨#[], #[], []⟩).layIfaces Tryz.prog LV (World.laidAll Tryz.prog os LV) = true := by kernel_rfl
theorem zipB (os : Os) (args : Array Value) : ((World.laidAll Tryz.prog os LV).forCall (fun _ _ => 0) ⟨#[], args, []⟩).variablesZipB Tryz.prog = true := by kernel_rfl
theorem zipRows (os : Os) (args : Array Value) : (((World.laidAll Tryz.prog os LV).forCall (fun _ _ => 0) ⟨#[], args, []⟩).heap.toList.drop Tryz.prog.globals.size).take ((begin Tryz.prog (fun _ _ => 0) default).world.heap.size - Tryz.prog.globals.size) =
      (begin Tryz.prog (fun _ _ => 0) default).world.heap.toList.drop Tryz.prog.globals.size := by kernel_rfl
/-- A start that meets the rows' condition. -/
theorem start_shaped (os : Os) (args : Array Value) : ((World.laidAll Tryz.prog os LV).forCall (fun _ _ => 0) ⟨#[], args, []⟩).Shaped Tryz.prog := World.shaped_of_ZipB (zipB os args) (zipRows os args)
theorem start_met (os : Os) (args : Array Value) : laidMetH Tryz.prog LV ((World.laidAll Tryz.prog os LV).forCall (fun _ _ => 0) ⟨#[], args, []⟩).memory := by
  rw [MakeChecks.laidMetH_plain _ _ _ (by kernel_rfl)]
  exact laidMet_laidAll args (layFits os) (layIfaces os)
theorem own : ownKnob Tryz.prog.godebug = none := by kernel_rfl
theorem tableIs : Tryz.prog.types = Tryz.checked.src.types := by kernel_rfl
theorem typesIn : (Tryz.prog.globals.all (fun g => decide (g.type < Tryz.prog.types.size)) && Tryz.prog.funcs.all (fun f => f.params.all fun t => decide (t < Tryz.prog.types.size))) = true := by kernel_rfl
theorem laidOut : laidOutB Tryz.prog = true := ClosedOfChecked.laidOutB_of (ClosedOfChecked.allSpec_of Tryz.checked.wellFormed tableIs) typesIn
end Go.Proofs.YtkaafdoplemjhaaGreatDoor
