/-
  NARROWER THAN 'FOR EVERY INPUT', by the rows' own cells (each row's printed sentence says how): SessionCounts: laid · SessionDatagrams: laid · SessionHttp: laid · SessionMails: laid · SessionNames: laid · SessionEmpty: laid · SessionNone: laid.
  DERIVED. THE GIVEN ROWS OF THIS SEAT. 7 by the template 'for every input the law returns true; each argument reads behind the call as it read before'; 0 by the template 'total and deterministic' (their statements: YtkaafdoplemjhaaGreatDoorTotals.lean).
  GIVEN WITH THE SEED: the statements are not yours to turn. If you find one false, say at which input.
  Laid BY PROGRAM, IN A SANDBOX (cutbox-rows.mjs): the forced cells as the released guide's own fill.sh prints them over the translation 9f01d7bec9d21798… (all of the seat's roots in one cut). By AI agents, Wed Nov 11 2026. No macro, syntax, notation, axiom, sorry.
-/
import Derived.Test.YtkaafdoplemjhaaGreatDoorChecked
import GoSem.Claim
import GoSem.ClaimJoined
import GoSem.ClaimMapViews
import Derived.JoinedTies
import Derived.KernelRfl
namespace Go.Proofs.YtkaafdoplemjhaaGreatDoor
/- THE CELL 'sum', in the pinned program and in every row, IS THE sha256 OF THE DUMP (.gsa) THAT YtkaafdoplemjhaaGreatDoorProg.lean LOADS. Nothing in Lean hashes anything: it is a label: what it is worth is what the hold of that sum in a sandbox is worth. -/
noncomputable def Tryz.pinned : Pinned := { name := "ytkaafdoplemjhaagreatdoor", sum := "9f01d7bec9d217986535dd04345fe6f1d8ad4e3f8f47e61b9e28bf0fb2468e09", checked := Tryz.checked }
namespace Rows
def none {H : Type} : Left H := { results := [], args := [] }

/- WHAT THE LISTED PACKAGE-LEVEL VARIABLES READ AS WHEN THE CALL BEGINS. Each datum BY PROGRAM (the guide's laid-datum.mjs) off the statement by which the dump's own 'gosem.cut.vars' lays the variable. In a bare row this is a premise. The card (YtkaafdoplemjhaaGreatDoorCards.lean) ties it to the program's text. -/
def laid_internal_strconv_uint64pow10 {H : Type} : DataW H := .agg [.lit (.int .u64 1), .lit (.int .u64 10), .lit (.int .u64 100), .lit (.int .u64 1000), .lit (.int .u64 10000), .lit (.int .u64 100000), .lit (.int .u64 1000000), .lit (.int .u64 10000000), .lit (.int .u64 100000000), .lit (.int .u64 1000000000), .lit (.int .u64 10000000000), .lit (.int .u64 100000000000), .lit (.int .u64 1000000000000), .lit (.int .u64 10000000000000), .lit (.int .u64 100000000000000), .lit (.int .u64 1000000000000000), .lit (.int .u64 10000000000000000), .lit (.int .u64 100000000000000000), .lit (.int .u64 1000000000000000000), .lit (.int .u64 10000000000000000000)]
def laid_math_bits_deBruijn32tab {H : Type} : DataW H := .agg [.lit (.int .u8 0), .lit (.int .u8 1), .lit (.int .u8 28), .lit (.int .u8 2), .lit (.int .u8 29), .lit (.int .u8 14), .lit (.int .u8 24), .lit (.int .u8 3), .lit (.int .u8 30), .lit (.int .u8 22), .lit (.int .u8 20), .lit (.int .u8 15), .lit (.int .u8 25), .lit (.int .u8 17), .lit (.int .u8 4), .lit (.int .u8 8), .lit (.int .u8 31), .lit (.int .u8 27), .lit (.int .u8 13), .lit (.int .u8 23), .lit (.int .u8 21), .lit (.int .u8 19), .lit (.int .u8 16), .lit (.int .u8 7), .lit (.int .u8 26), .lit (.int .u8 12), .lit (.int .u8 18), .lit (.int .u8 6), .lit (.int .u8 11), .lit (.int .u8 5), .lit (.int .u8 10), .lit (.int .u8 9)]
def laid_math_bits_deBruijn64tab {H : Type} : DataW H := .agg [.lit (.int .u8 0), .lit (.int .u8 1), .lit (.int .u8 56), .lit (.int .u8 2), .lit (.int .u8 57), .lit (.int .u8 49), .lit (.int .u8 28), .lit (.int .u8 3), .lit (.int .u8 61), .lit (.int .u8 58), .lit (.int .u8 42), .lit (.int .u8 50), .lit (.int .u8 38), .lit (.int .u8 29), .lit (.int .u8 17), .lit (.int .u8 4), .lit (.int .u8 62), .lit (.int .u8 47), .lit (.int .u8 59), .lit (.int .u8 36), .lit (.int .u8 45), .lit (.int .u8 43), .lit (.int .u8 51), .lit (.int .u8 22), .lit (.int .u8 53), .lit (.int .u8 39), .lit (.int .u8 33), .lit (.int .u8 30), .lit (.int .u8 24), .lit (.int .u8 18), .lit (.int .u8 12), .lit (.int .u8 5), .lit (.int .u8 63), .lit (.int .u8 55), .lit (.int .u8 48), .lit (.int .u8 27), .lit (.int .u8 60), .lit (.int .u8 41), .lit (.int .u8 37), .lit (.int .u8 16), .lit (.int .u8 46), .lit (.int .u8 35), .lit (.int .u8 44), .lit (.int .u8 21), .lit (.int .u8 52), .lit (.int .u8 32), .lit (.int .u8 23), .lit (.int .u8 11), .lit (.int .u8 54), .lit (.int .u8 26), .lit (.int .u8 40), .lit (.int .u8 15), .lit (.int .u8 34), .lit (.int .u8 20), .lit (.int .u8 31), .lit (.int .u8 10), .lit (.int .u8 25), .lit (.int .u8 14), .lit (.int .u8 19), .lit (.int .u8 9), .lit (.int .u8 13), .lit (.int .u8 8), .lit (.int .u8 7), .lit (.int .u8 6)]

/-- 'intrusionlaw41.SessionCounts': WHATEVER THE INPUT: true; the input reads as it did. -/
def sessionCountsSpec : ChangeSpec := { name := "sessionCounts", fn := fun _ => fun
  | [d1, d2, d3] => { results := [.lit (.bool true)], args := [d1, d2, d3] }
  | _ => none }
def sessionCountsRow : OpenClaim := { program := "ytkaafdoplemjhaagreatdoor", sum := "9f01d7bec9d217986535dd04345fe6f1d8ad4e3f8f47e61b9e28bf0fb2468e09", func := "intrusion/intrusionlaw41.SessionCounts", spec := "sessionCounts", unfollowed := true, recurses := true, named := ["internal/strconv.uint64pow10", "math/bits.deBruijn32tab", "math/bits.deBruijn64tab"], plainKeys := false, apart := false, laid := [("internal/strconv.uint64pow10", laid_internal_strconv_uint64pow10), ("math/bits.deBruijn32tab", laid_math_bits_deBruijn32tab), ("math/bits.deBruijn64tab", laid_math_bits_deBruijn64tab)] }
def SessionCountsSaid : Prop := sessionCountsRow.holds Tryz.pinned (OpenSpec.ofChange sessionCountsSpec)

/-- ITS FALSE NEIGHBOUR: 'it returns false'. Refute it at one input. -/
def sessionCountsWrong : ChangeSpec := { name := "sessionCounts", fn := fun _ => fun
  | [d1, d2, d3] => { results := [.lit (.bool false)], args := [d1, d2, d3] }
  | _ => none }
def SessionCountsWrongFalsely : Prop := sessionCountsRow.holds Tryz.pinned (OpenSpec.ofChange sessionCountsWrong)

/-- 'intrusionlaw41.SessionDatagrams': WHATEVER THE INPUT: true; the input reads as it did. -/
def sessionDatagramsSpec : ChangeSpec := { name := "sessionDatagrams", fn := fun _ => fun
  | [d1, d2] => { results := [.lit (.bool true)], args := [d1, d2] }
  | _ => none }
def sessionDatagramsRow : OpenClaim := { program := "ytkaafdoplemjhaagreatdoor", sum := "9f01d7bec9d217986535dd04345fe6f1d8ad4e3f8f47e61b9e28bf0fb2468e09", func := "intrusion/intrusionlaw41.SessionDatagrams", spec := "sessionDatagrams", unfollowed := true, recurses := true, named := ["internal/strconv.uint64pow10", "math/bits.deBruijn32tab", "math/bits.deBruijn64tab"], plainKeys := false, apart := false, laid := [("internal/strconv.uint64pow10", laid_internal_strconv_uint64pow10), ("math/bits.deBruijn32tab", laid_math_bits_deBruijn32tab), ("math/bits.deBruijn64tab", laid_math_bits_deBruijn64tab)] }
def SessionDatagramsSaid : Prop := sessionDatagramsRow.holds Tryz.pinned (OpenSpec.ofChange sessionDatagramsSpec)

/-- ITS FALSE NEIGHBOUR: 'it returns false'. Refute it at one input. -/
def sessionDatagramsWrong : ChangeSpec := { name := "sessionDatagrams", fn := fun _ => fun
  | [d1, d2] => { results := [.lit (.bool false)], args := [d1, d2] }
  | _ => none }
def SessionDatagramsWrongFalsely : Prop := sessionDatagramsRow.holds Tryz.pinned (OpenSpec.ofChange sessionDatagramsWrong)

/-- 'intrusionlaw41.SessionHttp': WHATEVER THE INPUT: true; the input reads as it did. -/
def sessionHttpSpec : ChangeSpec := { name := "sessionHttp", fn := fun _ => fun
  | [d1, d2] => { results := [.lit (.bool true)], args := [d1, d2] }
  | _ => none }
def sessionHttpRow : OpenClaim := { program := "ytkaafdoplemjhaagreatdoor", sum := "9f01d7bec9d217986535dd04345fe6f1d8ad4e3f8f47e61b9e28bf0fb2468e09", func := "intrusion/intrusionlaw41.SessionHttp", spec := "sessionHttp", unfollowed := true, recurses := true, named := ["internal/strconv.uint64pow10", "math/bits.deBruijn32tab", "math/bits.deBruijn64tab"], plainKeys := false, apart := false, laid := [("internal/strconv.uint64pow10", laid_internal_strconv_uint64pow10), ("math/bits.deBruijn32tab", laid_math_bits_deBruijn32tab), ("math/bits.deBruijn64tab", laid_math_bits_deBruijn64tab)] }
def SessionHttpSaid : Prop := sessionHttpRow.holds Tryz.pinned (OpenSpec.ofChange sessionHttpSpec)

/-- ITS FALSE NEIGHBOUR: 'it returns false'. Refute it at one input. -/
def sessionHttpWrong : ChangeSpec := { name := "sessionHttp", fn := fun _ => fun
  | [d1, d2] => { results := [.lit (.bool false)], args := [d1, d2] }
  | _ => none }
def SessionHttpWrongFalsely : Prop := sessionHttpRow.holds Tryz.pinned (OpenSpec.ofChange sessionHttpWrong)

/-- 'intrusionlaw41.SessionMails': WHATEVER THE INPUT: true; the input reads as it did. -/
def sessionMailsSpec : ChangeSpec := { name := "sessionMails", fn := fun _ => fun
  | [d1, d2] => { results := [.lit (.bool true)], args := [d1, d2] }
  | _ => none }
def sessionMailsRow : OpenClaim := { program := "ytkaafdoplemjhaagreatdoor", sum := "9f01d7bec9d217986535dd04345fe6f1d8ad4e3f8f47e61b9e28bf0fb2468e09", func := "intrusion/intrusionlaw41.SessionMails", spec := "sessionMails", unfollowed := true, recurses := true, named := ["internal/strconv.uint64pow10", "math/bits.deBruijn32tab", "math/bits.deBruijn64tab"], plainKeys := false, apart := false, laid := [("internal/strconv.uint64pow10", laid_internal_strconv_uint64pow10), ("math/bits.deBruijn32tab", laid_math_bits_deBruijn32tab), ("math/bits.deBruijn64tab", laid_math_bits_deBruijn64tab)] }
def SessionMailsSaid : Prop := sessionMailsRow.holds Tryz.pinned (OpenSpec.ofChange sessionMailsSpec)

/-- ITS FALSE NEIGHBOUR: 'it returns false'. Refute it at one input. -/
def sessionMailsWrong : ChangeSpec := { name := "sessionMails", fn := fun _ => fun
  | [d1, d2] => { results := [.lit (.bool false)], args := [d1, d2] }
  | _ => none }
def SessionMailsWrongFalsely : Prop := sessionMailsRow.holds Tryz.pinned (OpenSpec.ofChange sessionMailsWrong)

/-- 'intrusionlaw41.SessionNames': WHATEVER THE INPUT: true; the input reads as it did. -/
def sessionNamesSpec : ChangeSpec := { name := "sessionNames", fn := fun _ => fun
  | [d1, d2] => { results := [.lit (.bool true)], args := [d1, d2] }
  | _ => none }
def sessionNamesRow : OpenClaim := { program := "ytkaafdoplemjhaagreatdoor", sum := "9f01d7bec9d217986535dd04345fe6f1d8ad4e3f8f47e61b9e28bf0fb2468e09", func := "intrusion/intrusionlaw41.SessionNames", spec := "sessionNames", unfollowed := true, recurses := true, named := ["internal/strconv.uint64pow10", "math/bits.deBruijn32tab", "math/bits.deBruijn64tab"], plainKeys := false, apart := false, laid := [("internal/strconv.uint64pow10", laid_internal_strconv_uint64pow10), ("math/bits.deBruijn32tab", laid_math_bits_deBruijn32tab), ("math/bits.deBruijn64tab", laid_math_bits_deBruijn64tab)] }
def SessionNamesSaid : Prop := sessionNamesRow.holds Tryz.pinned (OpenSpec.ofChange sessionNamesSpec)

/-- ITS FALSE NEIGHBOUR: 'it returns false'. Refute it at one input. -/
def sessionNamesWrong : ChangeSpec := { name := "sessionNames", fn := fun _ => fun
  | [d1, d2] => { results := [.lit (.bool false)], args := [d1, d2] }
  | _ => none }
def SessionNamesWrongFalsely : Prop := sessionNamesRow.holds Tryz.pinned (OpenSpec.ofChange sessionNamesWrong)

/-- 'intrusionlaw41.SessionEmpty': WHATEVER THE INPUT: true; the input reads as it did. -/
def sessionEmptySpec : ChangeSpec := { name := "sessionEmpty", fn := fun _ => fun
  | [d1, d2] => { results := [.lit (.bool true)], args := [d1, d2] }
  | _ => none }
def sessionEmptyRow : OpenClaim := { program := "ytkaafdoplemjhaagreatdoor", sum := "9f01d7bec9d217986535dd04345fe6f1d8ad4e3f8f47e61b9e28bf0fb2468e09", func := "intrusion/intrusionlaw41.SessionEmpty", spec := "sessionEmpty", unfollowed := true, recurses := true, named := ["internal/strconv.uint64pow10", "math/bits.deBruijn32tab", "math/bits.deBruijn64tab"], plainKeys := false, apart := false, laid := [("internal/strconv.uint64pow10", laid_internal_strconv_uint64pow10), ("math/bits.deBruijn32tab", laid_math_bits_deBruijn32tab), ("math/bits.deBruijn64tab", laid_math_bits_deBruijn64tab)] }
def SessionEmptySaid : Prop := sessionEmptyRow.holds Tryz.pinned (OpenSpec.ofChange sessionEmptySpec)

/-- ITS FALSE NEIGHBOUR: 'it returns false'. Refute it at one input. -/
def sessionEmptyWrong : ChangeSpec := { name := "sessionEmpty", fn := fun _ => fun
  | [d1, d2] => { results := [.lit (.bool false)], args := [d1, d2] }
  | _ => none }
def SessionEmptyWrongFalsely : Prop := sessionEmptyRow.holds Tryz.pinned (OpenSpec.ofChange sessionEmptyWrong)

/-- 'intrusionlaw41.SessionNone': WHATEVER THE INPUT: true; the input reads as it did. -/
def sessionNoneSpec : ChangeSpec := { name := "sessionNone", fn := fun _ => fun
  | [d] => { results := [.lit (.bool true)], args := [d] }
  | _ => none }
def sessionNoneRow : OpenClaim := { program := "ytkaafdoplemjhaagreatdoor", sum := "9f01d7bec9d217986535dd04345fe6f1d8ad4e3f8f47e61b9e28bf0fb2468e09", func := "intrusion/intrusionlaw41.SessionNone", spec := "sessionNone", unfollowed := true, recurses := true, named := ["internal/strconv.uint64pow10", "math/bits.deBruijn32tab", "math/bits.deBruijn64tab"], plainKeys := false, apart := false, laid := [("internal/strconv.uint64pow10", laid_internal_strconv_uint64pow10), ("math/bits.deBruijn32tab", laid_math_bits_deBruijn32tab), ("math/bits.deBruijn64tab", laid_math_bits_deBruijn64tab)] }
def SessionNoneSaid : Prop := sessionNoneRow.holds Tryz.pinned (OpenSpec.ofChange sessionNoneSpec)

/-- ITS FALSE NEIGHBOUR: 'it returns false'. Refute it at one input. -/
def sessionNoneWrong : ChangeSpec := { name := "sessionNone", fn := fun _ => fun
  | [d] => { results := [.lit (.bool false)], args := [d] }
  | _ => none }
def SessionNoneWrongFalsely : Prop := sessionNoneRow.holds Tryz.pinned (OpenSpec.ofChange sessionNoneWrong)

/- THE SECOND FORM. 'bulk': how many values and letters a reading holds, each counted each time it is reached (what is shared counts as often as it is met; a slice's spare places count too). A statement '..UptoSaid' is the law's where the arguments, and the package variables that the reading takes, are together of bulk at most 1048576: NARROWER than '..Said'. Prove '..Said' where nothing that the law and all that it calls make is longer than what came in: it says more and counts as full. Else prove '..UptoSaid'. A law counts once. -/
mutual
def uptoBulk {H : Type} : DataW H → Nat
  | .lit (.string bytes) => bytes.length + 1
  | .lit _ => 1
  | .nil => 1
  | .ptr d => uptoBulk d + 1
  | .slice elems spare => uptoBulkAll elems + uptoBulkAll spare + 1
  | .agg parts => uptoBulkAll parts + 1
  | .iface _ d => uptoBulk d + 1
  | .map entries => uptoBulkEntries entries + 1
  | .held _ => 1
def uptoBulkAll {H : Type} : List (DataW H) → Nat
  | [] => 0
  | d :: r => uptoBulk d + uptoBulkAll r
def uptoBulkEntries {H : Type} : List (Lit × DataW H) → Nat
  | [] => 0
  | x :: r => uptoBulkEntry x + uptoBulkEntries r
def uptoBulkEntry {H : Type} : Lit × DataW H → Nat
  | (.string bytes, d) => bytes.length + uptoBulk d + 1
  | (_, d) => uptoBulk d + 1
 end
def uptoSmall : (H : Type) → List (DataW H) → Bool := fun _ ds => decide (uptoBulkAll ds ≤ 1048576)
def OpenSpec.upto (s : _root_.Go.ChangeSpec) : _root_.Go.OpenSpec := { _root_.Go.OpenSpec.ofChange s with cond := some uptoSmall }

/-- 'intrusionlaw41.SessionCounts', WHERE WHAT IT READS IS OF BULK AT MOST 1048576: true; the input reads as it did. -/
def sessionCountsUptoRow : OpenClaim := { program := "ytkaafdoplemjhaagreatdoor", sum := "9f01d7bec9d217986535dd04345fe6f1d8ad4e3f8f47e61b9e28bf0fb2468e09", func := "intrusion/intrusionlaw41.SessionCounts", spec := "sessionCounts", unfollowed := true, recurses := true, named := ["internal/strconv.uint64pow10", "math/bits.deBruijn32tab", "math/bits.deBruijn64tab"], plainKeys := false, apart := false, laid := [("internal/strconv.uint64pow10", laid_internal_strconv_uint64pow10), ("math/bits.deBruijn32tab", laid_math_bits_deBruijn32tab), ("math/bits.deBruijn64tab", laid_math_bits_deBruijn64tab)], narrowed := true }
def SessionCountsUptoSaid : Prop := sessionCountsUptoRow.holds Tryz.pinned (OpenSpec.upto sessionCountsSpec)

/-- 'intrusionlaw41.SessionDatagrams', WHERE WHAT IT READS IS OF BULK AT MOST 1048576: true; the input reads as it did. -/
def sessionDatagramsUptoRow : OpenClaim := { program := "ytkaafdoplemjhaagreatdoor", sum := "9f01d7bec9d217986535dd04345fe6f1d8ad4e3f8f47e61b9e28bf0fb2468e09", func := "intrusion/intrusionlaw41.SessionDatagrams", spec := "sessionDatagrams", unfollowed := true, recurses := true, named := ["internal/strconv.uint64pow10", "math/bits.deBruijn32tab", "math/bits.deBruijn64tab"], plainKeys := false, apart := false, laid := [("internal/strconv.uint64pow10", laid_internal_strconv_uint64pow10), ("math/bits.deBruijn32tab", laid_math_bits_deBruijn32tab), ("math/bits.deBruijn64tab", laid_math_bits_deBruijn64tab)], narrowed := true }
def SessionDatagramsUptoSaid : Prop := sessionDatagramsUptoRow.holds Tryz.pinned (OpenSpec.upto sessionDatagramsSpec)

/-- 'intrusionlaw41.SessionHttp', WHERE WHAT IT READS IS OF BULK AT MOST 1048576: true; the input reads as it did. -/
def sessionHttpUptoRow : OpenClaim := { program := "ytkaafdoplemjhaagreatdoor", sum := "9f01d7bec9d217986535dd04345fe6f1d8ad4e3f8f47e61b9e28bf0fb2468e09", func := "intrusion/intrusionlaw41.SessionHttp", spec := "sessionHttp", unfollowed := true, recurses := true, named := ["internal/strconv.uint64pow10", "math/bits.deBruijn32tab", "math/bits.deBruijn64tab"], plainKeys := false, apart := false, laid := [("internal/strconv.uint64pow10", laid_internal_strconv_uint64pow10), ("math/bits.deBruijn32tab", laid_math_bits_deBruijn32tab), ("math/bits.deBruijn64tab", laid_math_bits_deBruijn64tab)], narrowed := true }
def SessionHttpUptoSaid : Prop := sessionHttpUptoRow.holds Tryz.pinned (OpenSpec.upto sessionHttpSpec)

/-- 'intrusionlaw41.SessionMails', WHERE WHAT IT READS IS OF BULK AT MOST 1048576: true; the input reads as it did. -/
def sessionMailsUptoRow : OpenClaim := { program := "ytkaafdoplemjhaagreatdoor", sum := "9f01d7bec9d217986535dd04345fe6f1d8ad4e3f8f47e61b9e28bf0fb2468e09", func := "intrusion/intrusionlaw41.SessionMails", spec := "sessionMails", unfollowed := true, recurses := true, named := ["internal/strconv.uint64pow10", "math/bits.deBruijn32tab", "math/bits.deBruijn64tab"], plainKeys := false, apart := false, laid := [("internal/strconv.uint64pow10", laid_internal_strconv_uint64pow10), ("math/bits.deBruijn32tab", laid_math_bits_deBruijn32tab), ("math/bits.deBruijn64tab", laid_math_bits_deBruijn64tab)], narrowed := true }
def SessionMailsUptoSaid : Prop := sessionMailsUptoRow.holds Tryz.pinned (OpenSpec.upto sessionMailsSpec)

/-- 'intrusionlaw41.SessionNames', WHERE WHAT IT READS IS OF BULK AT MOST 1048576: true; the input reads as it did. -/
def sessionNamesUptoRow : OpenClaim := { program := "ytkaafdoplemjhaagreatdoor", sum := "9f01d7bec9d217986535dd04345fe6f1d8ad4e3f8f47e61b9e28bf0fb2468e09", func := "intrusion/intrusionlaw41.SessionNames", spec := "sessionNames", unfollowed := true, recurses := true, named := ["internal/strconv.uint64pow10", "math/bits.deBruijn32tab", "math/bits.deBruijn64tab"], plainKeys := false, apart := false, laid := [("internal/strconv.uint64pow10", laid_internal_strconv_uint64pow10), ("math/bits.deBruijn32tab", laid_math_bits_deBruijn32tab), ("math/bits.deBruijn64tab", laid_math_bits_deBruijn64tab)], narrowed := true }
def SessionNamesUptoSaid : Prop := sessionNamesUptoRow.holds Tryz.pinned (OpenSpec.upto sessionNamesSpec)

/-- 'intrusionlaw41.SessionEmpty', WHERE WHAT IT READS IS OF BULK AT MOST 1048576: true; the input reads as it did. -/
def sessionEmptyUptoRow : OpenClaim := { program := "ytkaafdoplemjhaagreatdoor", sum := "9f01d7bec9d217986535dd04345fe6f1d8ad4e3f8f47e61b9e28bf0fb2468e09", func := "intrusion/intrusionlaw41.SessionEmpty", spec := "sessionEmpty", unfollowed := true, recurses := true, named := ["internal/strconv.uint64pow10", "math/bits.deBruijn32tab", "math/bits.deBruijn64tab"], plainKeys := false, apart := false, laid := [("internal/strconv.uint64pow10", laid_internal_strconv_uint64pow10), ("math/bits.deBruijn32tab", laid_math_bits_deBruijn32tab), ("math/bits.deBruijn64tab", laid_math_bits_deBruijn64tab)], narrowed := true }
def SessionEmptyUptoSaid : Prop := sessionEmptyUptoRow.holds Tryz.pinned (OpenSpec.upto sessionEmptySpec)

/-- 'intrusionlaw41.SessionNone', WHERE WHAT IT READS IS OF BULK AT MOST 1048576: true; the input reads as it did. -/
def sessionNoneUptoRow : OpenClaim := { program := "ytkaafdoplemjhaagreatdoor", sum := "9f01d7bec9d217986535dd04345fe6f1d8ad4e3f8f47e61b9e28bf0fb2468e09", func := "intrusion/intrusionlaw41.SessionNone", spec := "sessionNone", unfollowed := true, recurses := true, named := ["internal/strconv.uint64pow10", "math/bits.deBruijn32tab", "math/bits.deBruijn64tab"], plainKeys := false, apart := false, laid := [("internal/strconv.uint64pow10", laid_internal_strconv_uint64pow10), ("math/bits.deBruijn32tab", laid_math_bits_deBruijn32tab), ("math/bits.deBruijn64tab", laid_math_bits_deBruijn64tab)], narrowed := true }
def SessionNoneUptoSaid : Prop := sessionNoneUptoRow.holds Tryz.pinned (OpenSpec.upto sessionNoneSpec)

end Rows
end Go.Proofs.YtkaafdoplemjhaaGreatDoor
