/- A part of the proof that a session of datagrams answers as the reference (SessionDatagrams). Its contents: contracts of functions of the program, each stated with its premises. -/
import Derived.Shelf.Lay
import Derived.Shelf.Slices.Clone
import Derived.Ground.Names2Prog
import Derived.Test.YtkaafdoplemjhaaGreatDoorSessQA0
import Derived.Test.YtkaafdoplemjhaaGreatDoorProg
namespace Go.Proofs
open Go Go.Shelf Go.RowKit

shelf_lay Lays2.n16 Nm2 16 at Tryz as Tryz.lays2_16
/-- slices.Clone of strings: the shelf's contract, laid at this program. -/
theorem Sess.clone_any (b off n c : Nat) (zs : List ByteArray) (w : World) (hz : n ≤ zs.length) (hbig : n * 16 ≤ 140737488355328) (hc : ∀ j, j < zs.length → w.cell? ⟨b, off + j, none⟩ = some (.string (zs.getD j ByteArray.empty))) :
    Calls Tryz.prog 21 #[.slice (some ⟨b, off, none⟩) n c] w fun e w' => ∃ v', e = .returned v' ∧ w'.ownsRow w.heap.size 9 1 v' n ((zs.take n).map (Value.string)) ∧ v' ≠ .slice none 0 0 ∧ Below w.heap.size w w' :=
  Any.slices_Clone_string Tryz.lays2_16 b off n c zs w hz hbig hc
theorem Sess.clone_nil (n c : Nat) (w : World) : Calls Tryz.prog 21 #[.slice none n c] w fun e w' => e = .returned (.slice none 0 0) ∧ w' = w := Any.slices_Clone_string_nil Tryz.lays2_16 n c w
theorem Sess.clone_zero (a : Addr) (c : Nat) (w : World) : Calls Tryz.prog 21 #[.slice (some a) 0 c] w fun e w' => ∃ v', e = .returned v' ∧ w'.ownsRow w.heap.size 9 1 v' 0 [] ∧ v' ≠ .slice none 0 0 ∧ Below w.heap.size w w' :=
  Any.slices_Clone_string_zero Tryz.lays2_16 a c w
end Go.Proofs
