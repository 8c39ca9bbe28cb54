/- A part of the proof that a session of datagrams answers as the reference (SessionDatagrams). Its contents: contracts of functions of the program, each stated with its premises. -/
import Derived.Test.YtkaafdoplemjhaaGreatDoorSessKDatagramsa
import Derived.Test.YtkaafdoplemjhaaGreatDoorSessKDatagramsb
import Derived.Test.YtkaafdoplemjhaaGreatDoorSessKDatagramsc
import Derived.Test.YtkaafdoplemjhaaGreatDoorSessKDatagramsd
import Derived.Test.YtkaafdoplemjhaaGreatDoorSessKDatagramse
import Derived.Test.YtkaafdoplemjhaaGreatDoorSessKDatagramsf
import Derived.Test.YtkaafdoplemjhaaGreatDoorSessKDatagramsg
import Derived.Test.YtkaafdoplemjhaaGreatDoorSessKDatagramsh
import Derived.Test.YtkaafdoplemjhaaGreatDoorSessKDatagramsi
namespace Go.Proofs.YtkaafdoplemjhaaGreatDoor
open Go
set_option maxRecDepth 100000
theorem andT {a b : Bool} (h : a = true) (k : b = true) : (a && b) = true := by rw [h, k]; rfl
theorem mapsR : mapsRowed Tryz.prog = true := ClosedOfChecked.mapsRowed_of (ClosedOfChecked.allSpec_of Tryz.checked.wellFormed tableIs)
theorem sessionDatagrams_joined : joinedFacts Tryz.prog 4 Tryz.f4 Rows.sessionDatagramsSpec Rows.sessionDatagramsRow = true := by
  unfold joinedFacts
  exact (andT (andT (andT (andT (andT (andT (andT (andT (andT (andT (andT (andT (andT (andT (andT (andT (andT (andT (andT (andT (andT (andT (andT (andT (andT (andT (andT (andT (andT (andT (andT sessionDatagrams_k0 laidOut) mapsR) sessionDatagrams_k3) sessionDatagrams_k4) sessionDatagrams_k5) sessionDatagrams_k6) sessionDatagrams_k7) sessionDatagrams_k8) sessionDatagrams_k9) sessionDatagrams_k10) sessionDatagrams_k11) sessionDatagrams_k12) sessionDatagrams_k13) sessionDatagrams_k14) sessionDatagrams_k15) sessionDatagrams_k16) sessionDatagrams_k17) sessionDatagrams_k18) sessionDatagrams_k19) sessionDatagrams_k20) sessionDatagrams_k21) sessionDatagrams_k22) sessionDatagrams_k23) sessionDatagrams_k24) sessionDatagrams_k25) sessionDatagrams_k26) sessionDatagrams_k27) sessionDatagrams_k28) sessionDatagrams_k29) sessionDatagrams_k30) sessionDatagrams_k31)
end Go.Proofs.YtkaafdoplemjhaaGreatDoor
