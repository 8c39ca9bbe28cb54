/- A part of the proof that a nil session yields nothing (SessionNone). Its contents: contracts of functions of the program, each stated with its premises. -/
import Derived.Test.YtkaafdoplemjhaaGreatDoorSessKNonea
import Derived.Test.YtkaafdoplemjhaaGreatDoorSessKNoneb
import Derived.Test.YtkaafdoplemjhaaGreatDoorSessKNonec
import Derived.Test.YtkaafdoplemjhaaGreatDoorSessKNoned
import Derived.Test.YtkaafdoplemjhaaGreatDoorSessKNonee
import Derived.Test.YtkaafdoplemjhaaGreatDoorSessKNonef
import Derived.Test.YtkaafdoplemjhaaGreatDoorSessKNoneg
import Derived.Test.YtkaafdoplemjhaaGreatDoorSessKNoneh
import Derived.Test.YtkaafdoplemjhaaGreatDoorSessKNonei
namespace Go.Proofs.YtkaafdoplemjhaaGreatDoor
open Go
set_option maxRecDepth 100000
theorem andT {a b : Bool} (h : a = true) (k : b = true) : (a && b) = true := by rw [h, k]; rfl
theorem mapsR : mapsRowed Tryz.prog = true := ClosedOfChecked.mapsRowed_of (ClosedOfChecked.allSpec_of Tryz.checked.wellFormed tableIs)
theorem sessionNone_joined : joinedFacts Tryz.prog 9 Tryz.f9 Rows.sessionNoneSpec Rows.sessionNoneRow = true := by
  unfold joinedFacts
  exact (andT (andT (andT (andT (andT (andT (andT (andT (andT (andT (andT (andT (andT (andT (andT (andT (andT (andT (andT (andT (andT (andT (andT (andT (andT (andT (andT (andT (andT (andT (andT sessionNone_k0 laidOut) mapsR) sessionNone_k3) sessionNone_k4) sessionNone_k5) sessionNone_k6) sessionNone_k7) sessionNone_k8) sessionNone_k9) sessionNone_k10) sessionNone_k11) sessionNone_k12) sessionNone_k13) sessionNone_k14) sessionNone_k15) sessionNone_k16) sessionNone_k17) sessionNone_k18) sessionNone_k19) sessionNone_k20) sessionNone_k21) sessionNone_k22) sessionNone_k23) sessionNone_k24) sessionNone_k25) sessionNone_k26) sessionNone_k27) sessionNone_k28) sessionNone_k29) sessionNone_k30) sessionNone_k31)
end Go.Proofs.YtkaafdoplemjhaaGreatDoor
