/- SessionDatagrams: whatever the setting and the calls that come in, a session of datagrams of the program and one of the reference that are handed the same calls answer alike, so the law returns true; and its arguments read as they did. Conditions: none beyond the row's own (three listed package-level tables read as the program's text lays them; the card ties them to it). -/
import Derived.Test.YtkaafdoplemjhaaGreatDoorSessRe
import Derived.Test.YtkaafdoplemjhaaGreatDoorSessTi
import Derived.Test.YtkaafdoplemjhaaGreatDoorSessCd
import Derived.Test.YtkaafdoplemjhaaGreatDoorSessCb
namespace Go.Proofs.YtkaafdoplemjhaaGreatDoor
open Go
theorem datagrams_row_tie : Rows.sessionDatagramsRow.laidByTextAt .later Tryz.pinned [.data, .data, .data] true :=
  OpenClaim.laidByTextAt_later rfl rfl tieOwn noOwnUnsafe tie_fit
theorem sessionDatagrams_card : Rows.SessionDatagramsCardSaid :=
  Claim7.holds_tied_plain_at .later [] [.data, .data, .data] true (true, "7b94e99769615a8f83a946b6c6b4c2d129db9775491e9455fabb36baf755b247") true
    sessionDatagrams_holds (fun _ h => by cases h) datagrams_wf (fun _ h => by cases h) datagrams_row_tie rfl ⟨rfl, rfl⟩ card_main rfl
    (fun f fn hf hfn => by
      obtain rfl : f = 4 := Option.some.inj (datagrams_named.symm.trans hf) |>.symm
      obtain rfl : fn = Tryz.f4 := (Option.some.inj (Tryz.func4.symm.trans hfn)).symm
      exact ⟨card_looks, fun j t ht => by
        rw [Tryz.params4] at ht
        have hm : t ∈ [26, 27] := by simpa using Array.mem_of_getElem? ht
        exact (show Tryz.prog.wantsStandIn t = false by simpa using List.all_eq_true.1 datagrams_stand t hm)⟩)
    (goesBy_false _ rfl)
#print axioms sessionDatagrams_card
end Go.Proofs.YtkaafdoplemjhaaGreatDoor
