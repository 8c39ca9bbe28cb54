/- A part of the proof that a session of datagrams answers as the reference (SessionDatagrams). Its contents: contracts of functions of the program, each stated with its premises. -/
import Derived.Test.YtkaafdoplemjhaaGreatDoorSessTb
import Derived.Test.YtkaafdoplemjhaaGreatDoorSessTc
import Derived.Test.YtkaafdoplemjhaaGreatDoorSessTd
import Derived.Test.YtkaafdoplemjhaaGreatDoorSessTj
import Derived.Test.YtkaafdoplemjhaaGreatDoorSessTe
import Derived.Test.YtkaafdoplemjhaaGreatDoorSessTf
import Derived.Test.YtkaafdoplemjhaaGreatDoorSessTg
import Derived.Test.YtkaafdoplemjhaaGreatDoorSessTh
namespace Go.Proofs.YtkaafdoplemjhaaGreatDoor
open Go
set_option maxRecDepth 100000
theorem tie_calls : Tryz.prog.callsLaidAlone (varsId Tryz.prog) tieCode = true := calls_of tie_c1 tie_c2 tie_c3 tie_c4 tie_c5
theorem tie_hn : varsNamedLaterB Tryz.prog (varsId Tryz.prog) LT = true := named_of tieSome tieLays tieApart tie_calls tieAll
set_option maxHeartbeats 4000000 in
theorem tieOwn : Tryz.prog.laidByTextLater LT [.data, .data, .data] true :=
  @Program.laidByTextLater_by_run Tryz.prog LT [.data, .data, .data] true 400 8 tie_hw tie_hw' tie_hroot tie_hk tie_hg tie_hn tie_hd tie_h1 tie_h2 tie_hp
end Go.Proofs.YtkaafdoplemjhaaGreatDoor
