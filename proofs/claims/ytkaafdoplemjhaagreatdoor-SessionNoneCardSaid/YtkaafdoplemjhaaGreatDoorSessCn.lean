/- SessionNone: a nil session yields nothing: whatever the call that comes in, the law returns true, and its argument reads as it did. Conditions: none beyond the row's own (three listed package-level tables read as the program's text lays them; the card ties them to it). -/
import Derived.Test.YtkaafdoplemjhaaGreatDoorSessRo
import Derived.Test.YtkaafdoplemjhaaGreatDoorSessTi
import Derived.Test.YtkaafdoplemjhaaGreatDoorSessCa
import Derived.Test.YtkaafdoplemjhaaGreatDoorSessCb
namespace Go.Proofs.YtkaafdoplemjhaaGreatDoor
open Go
theorem none_row_tie : Rows.sessionNoneRow.laidByTextAt .later Tryz.pinned [.data, .data, .data] true :=
  OpenClaim.laidByTextAt_later rfl rfl tieOwn noOwnUnsafe tie_fit
theorem sessionNone_card : Rows.SessionNoneCardSaid :=
  Claim7.holds_tied_plain_at .later [] [.data, .data, .data] true (true, "7b94e99769615a8f83a946b6c6b4c2d129db9775491e9455fabb36baf755b247") true
    sessionNone_holds (fun _ h => by cases h) none_wf (fun _ h => by cases h) none_row_tie rfl ⟨rfl, rfl⟩ card_main rfl
    (fun f fn hf hfn => by
      obtain rfl : f = 9 := Option.some.inj (none_named.symm.trans hf) |>.symm
      obtain rfl : fn = Tryz.f9 := (Option.some.inj (Tryz.func9.symm.trans hfn)).symm
      exact ⟨card_looks, fun j t ht => by
        rw [Tryz.params9] at ht
        have hm : t ∈ [37] := by simpa using Array.mem_of_getElem? ht
        exact (show Tryz.prog.wantsStandIn t = false by simpa using List.all_eq_true.1 none_stand t hm)⟩)
    (goesBy_false _ rfl)
#print axioms sessionNone_card
end Go.Proofs.YtkaafdoplemjhaaGreatDoor
