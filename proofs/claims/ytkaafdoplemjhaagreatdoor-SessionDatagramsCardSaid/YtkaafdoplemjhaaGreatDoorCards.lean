/-
  DERIVED. GIVEN WITH THE SEED: THE CARDS: each row of YtkaafdoplemjhaaGreatDoorRows.lean that lists a variable, with what it lists TIED to the program's text (the seventh form; the later family's looks); each row that meets fmt, with fmt's text TOLD by the authors' own Lean function (tested against real Go, not proved from fmt's source: count such statements apart). THE CARD IS WHAT COUNTS. Prove the row's statement (the work); the ties are given (YtkaafdoplemjhaaGreatDoorTie.lean); close each card by the builder's one call (the guide's Derived/Test/ToyasCard.lean, 'card_holds'). Laid BY PROGRAM, IN A SANDBOX (cutbox-door.mjs). By AI agents, Wed Nov 11 2026. No macro, syntax, notation, axiom, sorry.
-/
import Derived.Test.YtkaafdoplemjhaaGreatDoorRows
import GoSem.ClaimSeven
namespace Go.Proofs.YtkaafdoplemjhaaGreatDoor
namespace Rows

/-- THE TIED CARD OF 'intrusionlaw41.SessionCounts'. -/
def sessionCountsCard : Claim7 := { stood := { row := sessionCountsRow, standIns := [], harness := (true, "7b94e99769615a8f83a946b6c6b4c2d129db9775491e9455fabb36baf755b247"), looks := true }, kinds := [], alts := [], laidByText := true, laidKinds := [.data, .data, .data], laidTests := true, laidLooks := .later }
def SessionCountsCardSaid : Prop := Claim7.holds Tryz.pinned (.plain (OpenSpec.ofChange sessionCountsSpec)) sessionCountsCard

/-- THE TIED CARD OF 'intrusionlaw41.SessionDatagrams'. -/
def sessionDatagramsCard : Claim7 := { stood := { row := sessionDatagramsRow, standIns := [], harness := (true, "7b94e99769615a8f83a946b6c6b4c2d129db9775491e9455fabb36baf755b247"), looks := true }, kinds := [], alts := [], laidByText := true, laidKinds := [.data, .data, .data], laidTests := true, laidLooks := .later }
def SessionDatagramsCardSaid : Prop := Claim7.holds Tryz.pinned (.plain (OpenSpec.ofChange sessionDatagramsSpec)) sessionDatagramsCard

/-- THE TIED CARD OF 'intrusionlaw41.SessionHttp'. -/
def sessionHttpCard : Claim7 := { stood := { row := sessionHttpRow, standIns := [], harness := (true, "7b94e99769615a8f83a946b6c6b4c2d129db9775491e9455fabb36baf755b247"), looks := true }, kinds := [], alts := [], laidByText := true, laidKinds := [.data, .data, .data], laidTests := true, laidLooks := .later }
def SessionHttpCardSaid : Prop := Claim7.holds Tryz.pinned (.plain (OpenSpec.ofChange sessionHttpSpec)) sessionHttpCard

/-- THE TIED CARD OF 'intrusionlaw41.SessionMails'. -/
def sessionMailsCard : Claim7 := { stood := { row := sessionMailsRow, standIns := [], harness := (true, "7b94e99769615a8f83a946b6c6b4c2d129db9775491e9455fabb36baf755b247"), looks := true }, kinds := [], alts := [], laidByText := true, laidKinds := [.data, .data, .data], laidTests := true, laidLooks := .later }
def SessionMailsCardSaid : Prop := Claim7.holds Tryz.pinned (.plain (OpenSpec.ofChange sessionMailsSpec)) sessionMailsCard

/-- THE TIED CARD OF 'intrusionlaw41.SessionNames'. -/
def sessionNamesCard : Claim7 := { stood := { row := sessionNamesRow, standIns := [], harness := (true, "7b94e99769615a8f83a946b6c6b4c2d129db9775491e9455fabb36baf755b247"), looks := true }, kinds := [], alts := [], laidByText := true, laidKinds := [.data, .data, .data], laidTests := true, laidLooks := .later }
def SessionNamesCardSaid : Prop := Claim7.holds Tryz.pinned (.plain (OpenSpec.ofChange sessionNamesSpec)) sessionNamesCard

/-- THE TIED CARD OF 'intrusionlaw41.SessionEmpty'. -/
def sessionEmptyCard : Claim7 := { stood := { row := sessionEmptyRow, standIns := [], harness := (true, "7b94e99769615a8f83a946b6c6b4c2d129db9775491e9455fabb36baf755b247"), looks := true }, kinds := [], alts := [], laidByText := true, laidKinds := [.data, .data, .data], laidTests := true, laidLooks := .later }
def SessionEmptyCardSaid : Prop := Claim7.holds Tryz.pinned (.plain (OpenSpec.ofChange sessionEmptySpec)) sessionEmptyCard

/-- THE TIED CARD OF 'intrusionlaw41.SessionNone'. -/
def sessionNoneCard : Claim7 := { stood := { row := sessionNoneRow, standIns := [], harness := (true, "7b94e99769615a8f83a946b6c6b4c2d129db9775491e9455fabb36baf755b247"), looks := true }, kinds := [], alts := [], laidByText := true, laidKinds := [.data, .data, .data], laidTests := true, laidLooks := .later }
def SessionNoneCardSaid : Prop := Claim7.holds Tryz.pinned (.plain (OpenSpec.ofChange sessionNoneSpec)) sessionNoneCard

/-- THE SECOND FORM's CARD OF 'intrusionlaw41.SessionCounts'. -/
def sessionCountsUptoCard : Claim7 := { stood := { row := sessionCountsUptoRow, standIns := [], harness := (true, "7b94e99769615a8f83a946b6c6b4c2d129db9775491e9455fabb36baf755b247"), looks := true }, kinds := [], alts := [], laidByText := true, laidKinds := [.data, .data, .data], laidTests := true, laidLooks := .later }
def SessionCountsUptoCardSaid : Prop := Claim7.holds Tryz.pinned (.plain (OpenSpec.upto sessionCountsSpec)) sessionCountsUptoCard

/-- THE SECOND FORM's CARD OF 'intrusionlaw41.SessionDatagrams'. -/
def sessionDatagramsUptoCard : Claim7 := { stood := { row := sessionDatagramsUptoRow, standIns := [], harness := (true, "7b94e99769615a8f83a946b6c6b4c2d129db9775491e9455fabb36baf755b247"), looks := true }, kinds := [], alts := [], laidByText := true, laidKinds := [.data, .data, .data], laidTests := true, laidLooks := .later }
def SessionDatagramsUptoCardSaid : Prop := Claim7.holds Tryz.pinned (.plain (OpenSpec.upto sessionDatagramsSpec)) sessionDatagramsUptoCard

/-- THE SECOND FORM's CARD OF 'intrusionlaw41.SessionHttp'. -/
def sessionHttpUptoCard : Claim7 := { stood := { row := sessionHttpUptoRow, standIns := [], harness := (true, "7b94e99769615a8f83a946b6c6b4c2d129db9775491e9455fabb36baf755b247"), looks := true }, kinds := [], alts := [], laidByText := true, laidKinds := [.data, .data, .data], laidTests := true, laidLooks := .later }
def SessionHttpUptoCardSaid : Prop := Claim7.holds Tryz.pinned (.plain (OpenSpec.upto sessionHttpSpec)) sessionHttpUptoCard

/-- THE SECOND FORM's CARD OF 'intrusionlaw41.SessionMails'. -/
def sessionMailsUptoCard : Claim7 := { stood := { row := sessionMailsUptoRow, standIns := [], harness := (true, "7b94e99769615a8f83a946b6c6b4c2d129db9775491e9455fabb36baf755b247"), looks := true }, kinds := [], alts := [], laidByText := true, laidKinds := [.data, .data, .data], laidTests := true, laidLooks := .later }
def SessionMailsUptoCardSaid : Prop := Claim7.holds Tryz.pinned (.plain (OpenSpec.upto sessionMailsSpec)) sessionMailsUptoCard

/-- THE SECOND FORM's CARD OF 'intrusionlaw41.SessionNames'. -/
def sessionNamesUptoCard : Claim7 := { stood := { row := sessionNamesUptoRow, standIns := [], harness := (true, "7b94e99769615a8f83a946b6c6b4c2d129db9775491e9455fabb36baf755b247"), looks := true }, kinds := [], alts := [], laidByText := true, laidKinds := [.data, .data, .data], laidTests := true, laidLooks := .later }
def SessionNamesUptoCardSaid : Prop := Claim7.holds Tryz.pinned (.plain (OpenSpec.upto sessionNamesSpec)) sessionNamesUptoCard

/-- THE SECOND FORM's CARD OF 'intrusionlaw41.SessionEmpty'. -/
def sessionEmptyUptoCard : Claim7 := { stood := { row := sessionEmptyUptoRow, standIns := [], harness := (true, "7b94e99769615a8f83a946b6c6b4c2d129db9775491e9455fabb36baf755b247"), looks := true }, kinds := [], alts := [], laidByText := true, laidKinds := [.data, .data, .data], laidTests := true, laidLooks := .later }
def SessionEmptyUptoCardSaid : Prop := Claim7.holds Tryz.pinned (.plain (OpenSpec.upto sessionEmptySpec)) sessionEmptyUptoCard

/-- THE SECOND FORM's CARD OF 'intrusionlaw41.SessionNone'. -/
def sessionNoneUptoCard : Claim7 := { stood := { row := sessionNoneUptoRow, standIns := [], harness := (true, "7b94e99769615a8f83a946b6c6b4c2d129db9775491e9455fabb36baf755b247"), looks := true }, kinds := [], alts := [], laidByText := true, laidKinds := [.data, .data, .data], laidTests := true, laidLooks := .later }
def SessionNoneUptoCardSaid : Prop := Claim7.holds Tryz.pinned (.plain (OpenSpec.upto sessionNoneSpec)) sessionNoneUptoCard
end Rows
end Go.Proofs.YtkaafdoplemjhaaGreatDoor
