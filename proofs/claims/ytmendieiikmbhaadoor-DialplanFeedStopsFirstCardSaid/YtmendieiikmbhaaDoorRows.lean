/-
  NARROWER THAN 'FOR EVERY INPUT', by the rows' own cells (each row's printed sentence says how): TrieMatchesLookups: laid · TrieRebuild: laid · TrieMatchesUpdates: laid · TrieLongestPrefix: laid · TrieEntriesSorted: laid · TopDialPlan: laid · TrieExtendsEntries: laid · TrieCommutes: laid · TrieNodesShared: laid · DialplanAnalyzeSpec: laid · DialplanOverlapAgreesWithEnBloc: laid · DialplanFeedStopsFirst: laid.
  DERIVED. THE GIVEN ROWS OF THIS SEAT. 12 by the template 'for every input the law returns true; each argument reads behind the call as it read before'; 0 by the template 'total and deterministic' (their statements: YtmendieiikmbhaaDoorTotals.lean).
  GIVEN WITH THE SEED: the statements are not yours to turn. If you find one false, say at which input.
  Laid BY PROGRAM, IN A SANDBOX (cutbox-rows.mjs): the forced cells as the released guide's own fill.sh prints them over the translation 4c1d13416d65c887… (all of the seat's roots in one cut). By AI agents, Wed Nov 11 2026. No macro, syntax, notation, axiom, sorry.
-/
import Derived.Test.YtmendieiikmbhaaDoorChecked
import GoSem.PinnedTables
import GoSem.Claim
import GoSem.ClaimJoined
import GoSem.ClaimMapViews
import Derived.JoinedTies
import Derived.KernelRfl
namespace Go.Proofs.YtmendieiikmbhaaDoor
/- THE CELL 'sum', in the pinned program and in every row, IS THE sha256 OF THE DUMP (.gsa) THAT YtmendieiikmbhaaDoorProg.lean LOADS. Nothing in Lean hashes anything: it is a label: what it is worth is what the hold of that sum in a sandbox is worth. -/
noncomputable def Tryd.pinned : Pinned := { name := "ytmendieiikmbhaadoor", sum := "4c1d13416d65c88712f624e3a7555819778c9c2b3145be1e45085212eff73f0c", checked := Tryd.checked }
namespace Rows
def none {H : Type} : Left H := { results := [], args := [] }

/- WHAT THE LISTED PACKAGE-LEVEL VARIABLES READ AS WHEN THE CALL BEGINS. Each datum BY PROGRAM (the guide's laid-datum.mjs) off the statement by which the dump's own 'gosem.cut.vars' lays the variable. In a bare row this is a premise. The card (YtmendieiikmbhaaDoorCards.lean) ties it to the program's text. -/
def laid_unicode_utf8_acceptRanges {H : Type} : DataW H := .agg [.agg [.lit (.int .u8 128), .lit (.int .u8 191)], .agg [.lit (.int .u8 160), .lit (.int .u8 191)], .agg [.lit (.int .u8 128), .lit (.int .u8 159)], .agg [.lit (.int .u8 144), .lit (.int .u8 191)], .agg [.lit (.int .u8 128), .lit (.int .u8 143)], .agg [.lit (.int .u8 0), .lit (.int .u8 0)], .agg [.lit (.int .u8 0), .lit (.int .u8 0)], .agg [.lit (.int .u8 0), .lit (.int .u8 0)], .agg [.lit (.int .u8 0), .lit (.int .u8 0)], .agg [.lit (.int .u8 0), .lit (.int .u8 0)], .agg [.lit (.int .u8 0), .lit (.int .u8 0)], .agg [.lit (.int .u8 0), .lit (.int .u8 0)], .agg [.lit (.int .u8 0), .lit (.int .u8 0)], .agg [.lit (.int .u8 0), .lit (.int .u8 0)], .agg [.lit (.int .u8 0), .lit (.int .u8 0)], .agg [.lit (.int .u8 0), .lit (.int .u8 0)]]
/-- One of Go's own tables, pinned by name: the form's constant. -/
def laid_unicode_utf8_first : DataW Unit := Go.Pinned.utf8First

/-- 'crossbarlaw07.TrieMatchesLookups': WHATEVER THE INPUT: true; the input reads as it did. -/
def trieMatchesLookupsSpec : ChangeSpec := { name := "trieMatchesLookups", fn := fun _ => fun
  | [d1, d2] => { results := [.lit (.bool true)], args := [d1, d2] }
  | _ => none }
def trieMatchesLookupsRow : OpenClaim := { program := "ytmendieiikmbhaadoor", sum := "4c1d13416d65c88712f624e3a7555819778c9c2b3145be1e45085212eff73f0c", func := "crossbar/crossbarlaw07.TrieMatchesLookups", spec := "trieMatchesLookups", inPlace := ["internal/bytealg.IndexByteString", "internal/bytealg.IndexString"], unfollowed := true, recurses := true, named := ["unicode/utf8.first", "unicode/utf8.acceptRanges", "internal/bytealg.MaxLen"], apart := false, laid := [("unicode/utf8.acceptRanges", laid_unicode_utf8_acceptRanges), ("unicode/utf8.first", laid_unicode_utf8_first)] }
def TrieMatchesLookupsSaid : Prop := trieMatchesLookupsRow.holds Tryd.pinned (OpenSpec.ofChange trieMatchesLookupsSpec)

/-- ITS FALSE NEIGHBOUR: 'it returns false'. Refute it at one input. -/
def trieMatchesLookupsWrong : ChangeSpec := { name := "trieMatchesLookups", fn := fun _ => fun
  | [d1, d2] => { results := [.lit (.bool false)], args := [d1, d2] }
  | _ => none }
def TrieMatchesLookupsWrongFalsely : Prop := trieMatchesLookupsRow.holds Tryd.pinned (OpenSpec.ofChange trieMatchesLookupsWrong)

/-- 'crossbarlaw07.TrieRebuild': WHATEVER THE INPUT: true; the input reads as it did. -/
def trieRebuildSpec : ChangeSpec := { name := "trieRebuild", fn := fun _ => fun
  | [d1, d2, d3] => { results := [.lit (.bool true)], args := [d1, d2, d3] }
  | _ => none }
def trieRebuildRow : OpenClaim := { program := "ytmendieiikmbhaadoor", sum := "4c1d13416d65c88712f624e3a7555819778c9c2b3145be1e45085212eff73f0c", func := "crossbar/crossbarlaw07.TrieRebuild", spec := "trieRebuild", inPlace := ["internal/bytealg.IndexByteString", "internal/bytealg.IndexString"], unfollowed := true, recurses := true, named := ["unicode/utf8.first", "unicode/utf8.acceptRanges", "internal/bytealg.MaxLen"], apart := false, laid := [("unicode/utf8.acceptRanges", laid_unicode_utf8_acceptRanges), ("unicode/utf8.first", laid_unicode_utf8_first)] }
def TrieRebuildSaid : Prop := trieRebuildRow.holds Tryd.pinned (OpenSpec.ofChange trieRebuildSpec)

/-- ITS FALSE NEIGHBOUR: 'it returns false'. Refute it at one input. -/
def trieRebuildWrong : ChangeSpec := { name := "trieRebuild", fn := fun _ => fun
  | [d1, d2, d3] => { results := [.lit (.bool false)], args := [d1, d2, d3] }
  | _ => none }
def TrieRebuildWrongFalsely : Prop := trieRebuildRow.holds Tryd.pinned (OpenSpec.ofChange trieRebuildWrong)

/-- 'crossbarlaw07.TrieMatchesUpdates': WHATEVER THE INPUT: true; the input reads as it did. -/
def trieMatchesUpdatesSpec : ChangeSpec := { name := "trieMatchesUpdates", fn := fun _ => fun
  | [d1, d2, d3] => { results := [.lit (.bool true)], args := [d1, d2, d3] }
  | _ => none }
def trieMatchesUpdatesRow : OpenClaim := { program := "ytmendieiikmbhaadoor", sum := "4c1d13416d65c88712f624e3a7555819778c9c2b3145be1e45085212eff73f0c", func := "crossbar/crossbarlaw07.TrieMatchesUpdates", spec := "trieMatchesUpdates", inPlace := ["internal/bytealg.IndexByteString", "internal/bytealg.IndexString"], unfollowed := true, recurses := true, named := ["unicode/utf8.first", "unicode/utf8.acceptRanges", "internal/bytealg.MaxLen"], apart := false, laid := [("unicode/utf8.acceptRanges", laid_unicode_utf8_acceptRanges), ("unicode/utf8.first", laid_unicode_utf8_first)] }
def TrieMatchesUpdatesSaid : Prop := trieMatchesUpdatesRow.holds Tryd.pinned (OpenSpec.ofChange trieMatchesUpdatesSpec)

/-- ITS FALSE NEIGHBOUR: 'it returns false'. Refute it at one input. -/
def trieMatchesUpdatesWrong : ChangeSpec := { name := "trieMatchesUpdates", fn := fun _ => fun
  | [d1, d2, d3] => { results := [.lit (.bool false)], args := [d1, d2, d3] }
  | _ => none }
def TrieMatchesUpdatesWrongFalsely : Prop := trieMatchesUpdatesRow.holds Tryd.pinned (OpenSpec.ofChange trieMatchesUpdatesWrong)

/-- 'crossbarlaw07.TrieLongestPrefix': WHATEVER THE INPUT: true; the input reads as it did. -/
def trieLongestPrefixSpec : ChangeSpec := { name := "trieLongestPrefix", fn := fun _ => fun
  | [d1, d2] => { results := [.lit (.bool true)], args := [d1, d2] }
  | _ => none }
def trieLongestPrefixRow : OpenClaim := { program := "ytmendieiikmbhaadoor", sum := "4c1d13416d65c88712f624e3a7555819778c9c2b3145be1e45085212eff73f0c", func := "crossbar/crossbarlaw07.TrieLongestPrefix", spec := "trieLongestPrefix", inPlace := ["internal/bytealg.IndexByteString", "internal/bytealg.IndexString"], unfollowed := true, recurses := true, named := ["unicode/utf8.first", "unicode/utf8.acceptRanges", "internal/bytealg.MaxLen"], apart := false, laid := [("unicode/utf8.acceptRanges", laid_unicode_utf8_acceptRanges), ("unicode/utf8.first", laid_unicode_utf8_first)] }
def TrieLongestPrefixSaid : Prop := trieLongestPrefixRow.holds Tryd.pinned (OpenSpec.ofChange trieLongestPrefixSpec)

/-- ITS FALSE NEIGHBOUR: 'it returns false'. Refute it at one input. -/
def trieLongestPrefixWrong : ChangeSpec := { name := "trieLongestPrefix", fn := fun _ => fun
  | [d1, d2] => { results := [.lit (.bool false)], args := [d1, d2] }
  | _ => none }
def TrieLongestPrefixWrongFalsely : Prop := trieLongestPrefixRow.holds Tryd.pinned (OpenSpec.ofChange trieLongestPrefixWrong)

/-- 'crossbarlaw07.TrieEntriesSorted': WHATEVER THE INPUT: true; the input reads as it did. -/
def trieEntriesSortedSpec : ChangeSpec := { name := "trieEntriesSorted", fn := fun _ => fun
  | [d] => { results := [.lit (.bool true)], args := [d] }
  | _ => none }
def trieEntriesSortedRow : OpenClaim := { program := "ytmendieiikmbhaadoor", sum := "4c1d13416d65c88712f624e3a7555819778c9c2b3145be1e45085212eff73f0c", func := "crossbar/crossbarlaw07.TrieEntriesSorted", spec := "trieEntriesSorted", inPlace := ["internal/bytealg.IndexByteString", "internal/bytealg.IndexString"], unfollowed := true, recurses := true, named := ["unicode/utf8.first", "unicode/utf8.acceptRanges", "internal/bytealg.MaxLen"], apart := false, laid := [("unicode/utf8.acceptRanges", laid_unicode_utf8_acceptRanges), ("unicode/utf8.first", laid_unicode_utf8_first)] }
def TrieEntriesSortedSaid : Prop := trieEntriesSortedRow.holds Tryd.pinned (OpenSpec.ofChange trieEntriesSortedSpec)

/-- ITS FALSE NEIGHBOUR: 'it returns false'. Refute it at one input. -/
def trieEntriesSortedWrong : ChangeSpec := { name := "trieEntriesSorted", fn := fun _ => fun
  | [d] => { results := [.lit (.bool false)], args := [d] }
  | _ => none }
def TrieEntriesSortedWrongFalsely : Prop := trieEntriesSortedRow.holds Tryd.pinned (OpenSpec.ofChange trieEntriesSortedWrong)

/-- 'crossbartop.TopDialPlan': WHATEVER THE INPUT: true; the input reads as it did. -/
def topDialPlanSpec : ChangeSpec := { name := "topDialPlan", fn := fun _ => fun
  | [d1, d2] => { results := [.lit (.bool true)], args := [d1, d2] }
  | _ => none }
def topDialPlanRow : OpenClaim := { program := "ytmendieiikmbhaadoor", sum := "4c1d13416d65c88712f624e3a7555819778c9c2b3145be1e45085212eff73f0c", func := "crossbar/crossbartop.TopDialPlan", spec := "topDialPlan", inPlace := ["internal/bytealg.IndexByteString", "internal/bytealg.IndexString"], unfollowed := true, recurses := true, named := ["unicode/utf8.first", "unicode/utf8.acceptRanges", "internal/bytealg.MaxLen"], apart := false, laid := [("unicode/utf8.acceptRanges", laid_unicode_utf8_acceptRanges), ("unicode/utf8.first", laid_unicode_utf8_first)] }
def TopDialPlanSaid : Prop := topDialPlanRow.holds Tryd.pinned (OpenSpec.ofChange topDialPlanSpec)

/-- ITS FALSE NEIGHBOUR: 'it returns false'. Refute it at one input. -/
def topDialPlanWrong : ChangeSpec := { name := "topDialPlan", fn := fun _ => fun
  | [d1, d2] => { results := [.lit (.bool false)], args := [d1, d2] }
  | _ => none }
def TopDialPlanWrongFalsely : Prop := topDialPlanRow.holds Tryd.pinned (OpenSpec.ofChange topDialPlanWrong)

/-- 'crossbarlaw07.TrieExtendsEntries': WHATEVER THE INPUT: true; the input reads as it did. -/
def trieExtendsEntriesSpec : ChangeSpec := { name := "trieExtendsEntries", fn := fun _ => fun
  | [d1, d2] => { results := [.lit (.bool true)], args := [d1, d2] }
  | _ => none }
def trieExtendsEntriesRow : OpenClaim := { program := "ytmendieiikmbhaadoor", sum := "4c1d13416d65c88712f624e3a7555819778c9c2b3145be1e45085212eff73f0c", func := "crossbar/crossbarlaw07.TrieExtendsEntries", spec := "trieExtendsEntries", inPlace := ["internal/bytealg.IndexByteString", "internal/bytealg.IndexString"], unfollowed := true, recurses := true, named := ["unicode/utf8.first", "unicode/utf8.acceptRanges", "internal/bytealg.MaxLen"], apart := false, laid := [("unicode/utf8.acceptRanges", laid_unicode_utf8_acceptRanges), ("unicode/utf8.first", laid_unicode_utf8_first)] }
def TrieExtendsEntriesSaid : Prop := trieExtendsEntriesRow.holds Tryd.pinned (OpenSpec.ofChange trieExtendsEntriesSpec)

/-- ITS FALSE NEIGHBOUR: 'it returns false'. Refute it at one input. -/
def trieExtendsEntriesWrong : ChangeSpec := { name := "trieExtendsEntries", fn := fun _ => fun
  | [d1, d2] => { results := [.lit (.bool false)], args := [d1, d2] }
  | _ => none }
def TrieExtendsEntriesWrongFalsely : Prop := trieExtendsEntriesRow.holds Tryd.pinned (OpenSpec.ofChange trieExtendsEntriesWrong)

/-- 'crossbarlaw07.TrieCommutes': WHATEVER THE INPUT: true; the input reads as it did. -/
def trieCommutesSpec : ChangeSpec := { name := "trieCommutes", fn := fun _ => fun
  | [d1, d2, d3, d4, d5] => { results := [.lit (.bool true)], args := [d1, d2, d3, d4, d5] }
  | _ => none }
def trieCommutesRow : OpenClaim := { program := "ytmendieiikmbhaadoor", sum := "4c1d13416d65c88712f624e3a7555819778c9c2b3145be1e45085212eff73f0c", func := "crossbar/crossbarlaw07.TrieCommutes", spec := "trieCommutes", inPlace := ["internal/bytealg.IndexByteString", "internal/bytealg.IndexString"], unfollowed := true, recurses := true, named := ["unicode/utf8.first", "unicode/utf8.acceptRanges", "internal/bytealg.MaxLen"], apart := false, laid := [("unicode/utf8.acceptRanges", laid_unicode_utf8_acceptRanges), ("unicode/utf8.first", laid_unicode_utf8_first)] }
def TrieCommutesSaid : Prop := trieCommutesRow.holds Tryd.pinned (OpenSpec.ofChange trieCommutesSpec)

/-- ITS FALSE NEIGHBOUR: 'it returns false'. Refute it at one input. -/
def trieCommutesWrong : ChangeSpec := { name := "trieCommutes", fn := fun _ => fun
  | [d1, d2, d3, d4, d5] => { results := [.lit (.bool false)], args := [d1, d2, d3, d4, d5] }
  | _ => none }
def TrieCommutesWrongFalsely : Prop := trieCommutesRow.holds Tryd.pinned (OpenSpec.ofChange trieCommutesWrong)

/-- 'crossbarlaw07.TrieNodesShared': WHATEVER THE INPUT: true; the input reads as it did. -/
def trieNodesSharedSpec : ChangeSpec := { name := "trieNodesShared", fn := fun _ => fun
  | [d1, d2, d3] => { results := [.lit (.bool true)], args := [d1, d2, d3] }
  | _ => none }
def trieNodesSharedRow : OpenClaim := { program := "ytmendieiikmbhaadoor", sum := "4c1d13416d65c88712f624e3a7555819778c9c2b3145be1e45085212eff73f0c", func := "crossbar/crossbarlaw07.TrieNodesShared", spec := "trieNodesShared", inPlace := ["internal/bytealg.IndexByteString", "internal/bytealg.IndexString"], unfollowed := true, recurses := true, named := ["unicode/utf8.first", "unicode/utf8.acceptRanges", "internal/bytealg.MaxLen"], apart := false, laid := [("unicode/utf8.acceptRanges", laid_unicode_utf8_acceptRanges), ("unicode/utf8.first", laid_unicode_utf8_first)] }
def TrieNodesSharedSaid : Prop := trieNodesSharedRow.holds Tryd.pinned (OpenSpec.ofChange trieNodesSharedSpec)

/-- ITS FALSE NEIGHBOUR: 'it returns false'. Refute it at one input. -/
def trieNodesSharedWrong : ChangeSpec := { name := "trieNodesShared", fn := fun _ => fun
  | [d1, d2, d3] => { results := [.lit (.bool false)], args := [d1, d2, d3] }
  | _ => none }
def TrieNodesSharedWrongFalsely : Prop := trieNodesSharedRow.holds Tryd.pinned (OpenSpec.ofChange trieNodesSharedWrong)

/-- 'crossbarlaw08.DialplanAnalyzeSpec': WHATEVER THE INPUT: true; the input reads as it did. -/
def dialplanAnalyzeSpecSpec : ChangeSpec := { name := "dialplanAnalyzeSpec", fn := fun _ => fun
  | [d1, d2] => { results := [.lit (.bool true)], args := [d1, d2] }
  | _ => none }
def dialplanAnalyzeSpecRow : OpenClaim := { program := "ytmendieiikmbhaadoor", sum := "4c1d13416d65c88712f624e3a7555819778c9c2b3145be1e45085212eff73f0c", func := "crossbar/crossbarlaw08.DialplanAnalyzeSpec", spec := "dialplanAnalyzeSpec", inPlace := ["internal/bytealg.IndexByteString", "internal/bytealg.IndexString"], unfollowed := true, recurses := true, named := ["unicode/utf8.first", "unicode/utf8.acceptRanges", "internal/bytealg.MaxLen"], apart := false, laid := [("unicode/utf8.acceptRanges", laid_unicode_utf8_acceptRanges), ("unicode/utf8.first", laid_unicode_utf8_first)] }
def DialplanAnalyzeSpecSaid : Prop := dialplanAnalyzeSpecRow.holds Tryd.pinned (OpenSpec.ofChange dialplanAnalyzeSpecSpec)

/-- ITS FALSE NEIGHBOUR: 'it returns false'. Refute it at one input. -/
def dialplanAnalyzeSpecWrong : ChangeSpec := { name := "dialplanAnalyzeSpec", fn := fun _ => fun
  | [d1, d2] => { results := [.lit (.bool false)], args := [d1, d2] }
  | _ => none }
def DialplanAnalyzeSpecWrongFalsely : Prop := dialplanAnalyzeSpecRow.holds Tryd.pinned (OpenSpec.ofChange dialplanAnalyzeSpecWrong)

/-- 'crossbarlaw08.DialplanOverlapAgreesWithEnBloc': WHATEVER THE INPUT: true; the input reads as it did. -/
def dialplanOverlapAgreesWithEnBlocSpec : ChangeSpec := { name := "dialplanOverlapAgreesWithEnBloc", fn := fun _ => fun
  | [d1, d2] => { results := [.lit (.bool true)], args := [d1, d2] }
  | _ => none }
def dialplanOverlapAgreesWithEnBlocRow : OpenClaim := { program := "ytmendieiikmbhaadoor", sum := "4c1d13416d65c88712f624e3a7555819778c9c2b3145be1e45085212eff73f0c", func := "crossbar/crossbarlaw08.DialplanOverlapAgreesWithEnBloc", spec := "dialplanOverlapAgreesWithEnBloc", inPlace := ["internal/bytealg.IndexByteString", "internal/bytealg.IndexString"], unfollowed := true, recurses := true, named := ["unicode/utf8.first", "unicode/utf8.acceptRanges", "internal/bytealg.MaxLen"], apart := false, laid := [("unicode/utf8.acceptRanges", laid_unicode_utf8_acceptRanges), ("unicode/utf8.first", laid_unicode_utf8_first)] }
def DialplanOverlapAgreesWithEnBlocSaid : Prop := dialplanOverlapAgreesWithEnBlocRow.holds Tryd.pinned (OpenSpec.ofChange dialplanOverlapAgreesWithEnBlocSpec)

/-- ITS FALSE NEIGHBOUR: 'it returns false'. Refute it at one input. -/
def dialplanOverlapAgreesWithEnBlocWrong : ChangeSpec := { name := "dialplanOverlapAgreesWithEnBloc", fn := fun _ => fun
  | [d1, d2] => { results := [.lit (.bool false)], args := [d1, d2] }
  | _ => none }
def DialplanOverlapAgreesWithEnBlocWrongFalsely : Prop := dialplanOverlapAgreesWithEnBlocRow.holds Tryd.pinned (OpenSpec.ofChange dialplanOverlapAgreesWithEnBlocWrong)

/-- 'crossbarlaw08.DialplanFeedStopsFirst': WHATEVER THE INPUT: true; the input reads as it did. -/
def dialplanFeedStopsFirstSpec : ChangeSpec := { name := "dialplanFeedStopsFirst", fn := fun _ => fun
  | [d1, d2] => { results := [.lit (.bool true)], args := [d1, d2] }
  | _ => none }
def dialplanFeedStopsFirstRow : OpenClaim := { program := "ytmendieiikmbhaadoor", sum := "4c1d13416d65c88712f624e3a7555819778c9c2b3145be1e45085212eff73f0c", func := "crossbar/crossbarlaw08.DialplanFeedStopsFirst", spec := "dialplanFeedStopsFirst", inPlace := ["internal/bytealg.IndexByteString", "internal/bytealg.IndexString"], unfollowed := true, recurses := true, named := ["unicode/utf8.first", "unicode/utf8.acceptRanges", "internal/bytealg.MaxLen"], apart := false, laid := [("unicode/utf8.acceptRanges", laid_unicode_utf8_acceptRanges), ("unicode/utf8.first", laid_unicode_utf8_first)] }
def DialplanFeedStopsFirstSaid : Prop := dialplanFeedStopsFirstRow.holds Tryd.pinned (OpenSpec.ofChange dialplanFeedStopsFirstSpec)

/-- ITS FALSE NEIGHBOUR: 'it returns false'. Refute it at one input. -/
def dialplanFeedStopsFirstWrong : ChangeSpec := { name := "dialplanFeedStopsFirst", fn := fun _ => fun
  | [d1, d2] => { results := [.lit (.bool false)], args := [d1, d2] }
  | _ => none }
def DialplanFeedStopsFirstWrongFalsely : Prop := dialplanFeedStopsFirstRow.holds Tryd.pinned (OpenSpec.ofChange dialplanFeedStopsFirstWrong)

/- THE SECOND FORM. 'bulk': how many values and letters a reading holds, each counted each time it is reached (what is shared counts as often as it is met; a slice's spare places count too). A statement '..UptoSaid' is the law's where the arguments, and the package variables that the reading takes, are together of bulk at most 1048576: NARROWER than '..Said'. Prove '..Said' where nothing that the law and all that it calls make is longer than what came in: it says more and counts as full. Else prove '..UptoSaid'. A law counts once. -/
mutual
def uptoBulk {H : Type} : DataW H → Nat
  | .lit (.string bytes) => bytes.length + 1
  | .lit _ => 1
  | .nil => 1
  | .ptr d => uptoBulk d + 1
  | .slice elems spare => uptoBulkAll elems + uptoBulkAll spare + 1
  | .agg parts => uptoBulkAll parts + 1
  | .iface _ d => uptoBulk d + 1
  | .map entries => uptoBulkEntries entries + 1
  | .held _ => 1
def uptoBulkAll {H : Type} : List (DataW H) → Nat
  | [] => 0
  | d :: r => uptoBulk d + uptoBulkAll r
def uptoBulkEntries {H : Type} : List (Lit × DataW H) → Nat
  | [] => 0
  | x :: r => uptoBulkEntry x + uptoBulkEntries r
def uptoBulkEntry {H : Type} : Lit × DataW H → Nat
  | (.string bytes, d) => bytes.length + uptoBulk d + 1
  | (_, d) => uptoBulk d + 1
 end
def uptoSmall : (H : Type) → List (DataW H) → Bool := fun _ ds => decide (uptoBulkAll ds ≤ 1048576)
def OpenSpec.upto (s : _root_.Go.ChangeSpec) : _root_.Go.OpenSpec := { _root_.Go.OpenSpec.ofChange s with cond := some uptoSmall }

/-- 'crossbarlaw07.TrieMatchesLookups', WHERE WHAT IT READS IS OF BULK AT MOST 1048576: true; the input reads as it did. -/
def trieMatchesLookupsUptoRow : OpenClaim := { program := "ytmendieiikmbhaadoor", sum := "4c1d13416d65c88712f624e3a7555819778c9c2b3145be1e45085212eff73f0c", func := "crossbar/crossbarlaw07.TrieMatchesLookups", spec := "trieMatchesLookups", inPlace := ["internal/bytealg.IndexByteString", "internal/bytealg.IndexString"], unfollowed := true, recurses := true, named := ["unicode/utf8.first", "unicode/utf8.acceptRanges", "internal/bytealg.MaxLen"], apart := false, laid := [("unicode/utf8.acceptRanges", laid_unicode_utf8_acceptRanges), ("unicode/utf8.first", laid_unicode_utf8_first)], narrowed := true }
def TrieMatchesLookupsUptoSaid : Prop := trieMatchesLookupsUptoRow.holds Tryd.pinned (OpenSpec.upto trieMatchesLookupsSpec)

/-- 'crossbarlaw07.TrieRebuild', WHERE WHAT IT READS IS OF BULK AT MOST 1048576: true; the input reads as it did. -/
def trieRebuildUptoRow : OpenClaim := { program := "ytmendieiikmbhaadoor", sum := "4c1d13416d65c88712f624e3a7555819778c9c2b3145be1e45085212eff73f0c", func := "crossbar/crossbarlaw07.TrieRebuild", spec := "trieRebuild", inPlace := ["internal/bytealg.IndexByteString", "internal/bytealg.IndexString"], unfollowed := true, recurses := true, named := ["unicode/utf8.first", "unicode/utf8.acceptRanges", "internal/bytealg.MaxLen"], apart := false, laid := [("unicode/utf8.acceptRanges", laid_unicode_utf8_acceptRanges), ("unicode/utf8.first", laid_unicode_utf8_first)], narrowed := true }
def TrieRebuildUptoSaid : Prop := trieRebuildUptoRow.holds Tryd.pinned (OpenSpec.upto trieRebuildSpec)

/-- 'crossbarlaw07.TrieMatchesUpdates', WHERE WHAT IT READS IS OF BULK AT MOST 1048576: true; the input reads as it did. -/
def trieMatchesUpdatesUptoRow : OpenClaim := { program := "ytmendieiikmbhaadoor", sum := "4c1d13416d65c88712f624e3a7555819778c9c2b3145be1e45085212eff73f0c", func := "crossbar/crossbarlaw07.TrieMatchesUpdates", spec := "trieMatchesUpdates", inPlace := ["internal/bytealg.IndexByteString", "internal/bytealg.IndexString"], unfollowed := true, recurses := true, named := ["unicode/utf8.first", "unicode/utf8.acceptRanges", "internal/bytealg.MaxLen"], apart := false, laid := [("unicode/utf8.acceptRanges", laid_unicode_utf8_acceptRanges), ("unicode/utf8.first", laid_unicode_utf8_first)], narrowed := true }
def TrieMatchesUpdatesUptoSaid : Prop := trieMatchesUpdatesUptoRow.holds Tryd.pinned (OpenSpec.upto trieMatchesUpdatesSpec)

/-- 'crossbarlaw07.TrieLongestPrefix', WHERE WHAT IT READS IS OF BULK AT MOST 1048576: true; the input reads as it did. -/
def trieLongestPrefixUptoRow : OpenClaim := { program := "ytmendieiikmbhaadoor", sum := "4c1d13416d65c88712f624e3a7555819778c9c2b3145be1e45085212eff73f0c", func := "crossbar/crossbarlaw07.TrieLongestPrefix", spec := "trieLongestPrefix", inPlace := ["internal/bytealg.IndexByteString", "internal/bytealg.IndexString"], unfollowed := true, recurses := true, named := ["unicode/utf8.first", "unicode/utf8.acceptRanges", "internal/bytealg.MaxLen"], apart := false, laid := [("unicode/utf8.acceptRanges", laid_unicode_utf8_acceptRanges), ("unicode/utf8.first", laid_unicode_utf8_first)], narrowed := true }
def TrieLongestPrefixUptoSaid : Prop := trieLongestPrefixUptoRow.holds Tryd.pinned (OpenSpec.upto trieLongestPrefixSpec)

/-- 'crossbarlaw07.TrieEntriesSorted', WHERE WHAT IT READS IS OF BULK AT MOST 1048576: true; the input reads as it did. -/
def trieEntriesSortedUptoRow : OpenClaim := { program := "ytmendieiikmbhaadoor", sum := "4c1d13416d65c88712f624e3a7555819778c9c2b3145be1e45085212eff73f0c", func := "crossbar/crossbarlaw07.TrieEntriesSorted", spec := "trieEntriesSorted", inPlace := ["internal/bytealg.IndexByteString", "internal/bytealg.IndexString"], unfollowed := true, recurses := true, named := ["unicode/utf8.first", "unicode/utf8.acceptRanges", "internal/bytealg.MaxLen"], apart := false, laid := [("unicode/utf8.acceptRanges", laid_unicode_utf8_acceptRanges), ("unicode/utf8.first", laid_unicode_utf8_first)], narrowed := true }
def TrieEntriesSortedUptoSaid : Prop := trieEntriesSortedUptoRow.holds Tryd.pinned (OpenSpec.upto trieEntriesSortedSpec)

/-- 'crossbartop.TopDialPlan', WHERE WHAT IT READS IS OF BULK AT MOST 1048576: true; the input reads as it did. -/
def topDialPlanUptoRow : OpenClaim := { program := "ytmendieiikmbhaadoor", sum := "4c1d13416d65c88712f624e3a7555819778c9c2b3145be1e45085212eff73f0c", func := "crossbar/crossbartop.TopDialPlan", spec := "topDialPlan", inPlace := ["internal/bytealg.IndexByteString", "internal/bytealg.IndexString"], unfollowed := true, recurses := true, named := ["unicode/utf8.first", "unicode/utf8.acceptRanges", "internal/bytealg.MaxLen"], apart := false, laid := [("unicode/utf8.acceptRanges", laid_unicode_utf8_acceptRanges), ("unicode/utf8.first", laid_unicode_utf8_first)], narrowed := true }
def TopDialPlanUptoSaid : Prop := topDialPlanUptoRow.holds Tryd.pinned (OpenSpec.upto topDialPlanSpec)

/-- 'crossbarlaw07.TrieExtendsEntries', WHERE WHAT IT READS IS OF BULK AT MOST 1048576: true; the input reads as it did. -/
def trieExtendsEntriesUptoRow : OpenClaim := { program := "ytmendieiikmbhaadoor", sum := "4c1d13416d65c88712f624e3a7555819778c9c2b3145be1e45085212eff73f0c", func := "crossbar/crossbarlaw07.TrieExtendsEntries", spec := "trieExtendsEntries", inPlace := ["internal/bytealg.IndexByteString", "internal/bytealg.IndexString"], unfollowed := true, recurses := true, named := ["unicode/utf8.first", "unicode/utf8.acceptRanges", "internal/bytealg.MaxLen"], apart := false, laid := [("unicode/utf8.acceptRanges", laid_unicode_utf8_acceptRanges), ("unicode/utf8.first", laid_unicode_utf8_first)], narrowed := true }
def TrieExtendsEntriesUptoSaid : Prop := trieExtendsEntriesUptoRow.holds Tryd.pinned (OpenSpec.upto trieExtendsEntriesSpec)

/-- 'crossbarlaw07.TrieCommutes', WHERE WHAT IT READS IS OF BULK AT MOST 1048576: true; the input reads as it did. -/
def trieCommutesUptoRow : OpenClaim := { program := "ytmendieiikmbhaadoor", sum := "4c1d13416d65c88712f624e3a7555819778c9c2b3145be1e45085212eff73f0c", func := "crossbar/crossbarlaw07.TrieCommutes", spec := "trieCommutes", inPlace := ["internal/bytealg.IndexByteString", "internal/bytealg.IndexString"], unfollowed := true, recurses := true, named := ["unicode/utf8.first", "unicode/utf8.acceptRanges", "internal/bytealg.MaxLen"], apart := false, laid := [("unicode/utf8.acceptRanges", laid_unicode_utf8_acceptRanges), ("unicode/utf8.first", laid_unicode_utf8_first)], narrowed := true }
def TrieCommutesUptoSaid : Prop := trieCommutesUptoRow.holds Tryd.pinned (OpenSpec.upto trieCommutesSpec)

/-- 'crossbarlaw07.TrieNodesShared', WHERE WHAT IT READS IS OF BULK AT MOST 1048576: true; the input reads as it did. -/
def trieNodesSharedUptoRow : OpenClaim := { program := "ytmendieiikmbhaadoor", sum := "4c1d13416d65c88712f624e3a7555819778c9c2b3145be1e45085212eff73f0c", func := "crossbar/crossbarlaw07.TrieNodesShared", spec := "trieNodesShared", inPlace := ["internal/bytealg.IndexByteString", "internal/bytealg.IndexString"], unfollowed := true, recurses := true, named := ["unicode/utf8.first", "unicode/utf8.acceptRanges", "internal/bytealg.MaxLen"], apart := false, laid := [("unicode/utf8.acceptRanges", laid_unicode_utf8_acceptRanges), ("unicode/utf8.first", laid_unicode_utf8_first)], narrowed := true }
def TrieNodesSharedUptoSaid : Prop := trieNodesSharedUptoRow.holds Tryd.pinned (OpenSpec.upto trieNodesSharedSpec)

/-- 'crossbarlaw08.DialplanAnalyzeSpec', WHERE WHAT IT READS IS OF BULK AT MOST 1048576: true; the input reads as it did. -/
def dialplanAnalyzeSpecUptoRow : OpenClaim := { program := "ytmendieiikmbhaadoor", sum := "4c1d13416d65c88712f624e3a7555819778c9c2b3145be1e45085212eff73f0c", func := "crossbar/crossbarlaw08.DialplanAnalyzeSpec", spec := "dialplanAnalyzeSpec", inPlace := ["internal/bytealg.IndexByteString", "internal/bytealg.IndexString"], unfollowed := true, recurses := true, named := ["unicode/utf8.first", "unicode/utf8.acceptRanges", "internal/bytealg.MaxLen"], apart := false, laid := [("unicode/utf8.acceptRanges", laid_unicode_utf8_acceptRanges), ("unicode/utf8.first", laid_unicode_utf8_first)], narrowed := true }
def DialplanAnalyzeSpecUptoSaid : Prop := dialplanAnalyzeSpecUptoRow.holds Tryd.pinned (OpenSpec.upto dialplanAnalyzeSpecSpec)

/-- 'crossbarlaw08.DialplanOverlapAgreesWithEnBloc', WHERE WHAT IT READS IS OF BULK AT MOST 1048576: true; the input reads as it did. -/
def dialplanOverlapAgreesWithEnBlocUptoRow : OpenClaim := { program := "ytmendieiikmbhaadoor", sum := "4c1d13416d65c88712f624e3a7555819778c9c2b3145be1e45085212eff73f0c", func := "crossbar/crossbarlaw08.DialplanOverlapAgreesWithEnBloc", spec := "dialplanOverlapAgreesWithEnBloc", inPlace := ["internal/bytealg.IndexByteString", "internal/bytealg.IndexString"], unfollowed := true, recurses := true, named := ["unicode/utf8.first", "unicode/utf8.acceptRanges", "internal/bytealg.MaxLen"], apart := false, laid := [("unicode/utf8.acceptRanges", laid_unicode_utf8_acceptRanges), ("unicode/utf8.first", laid_unicode_utf8_first)], narrowed := true }
def DialplanOverlapAgreesWithEnBlocUptoSaid : Prop := dialplanOverlapAgreesWithEnBlocUptoRow.holds Tryd.pinned (OpenSpec.upto dialplanOverlapAgreesWithEnBlocSpec)

/-- 'crossbarlaw08.DialplanFeedStopsFirst', WHERE WHAT IT READS IS OF BULK AT MOST 1048576: true; the input reads as it did. -/
def dialplanFeedStopsFirstUptoRow : OpenClaim := { program := "ytmendieiikmbhaadoor", sum := "4c1d13416d65c88712f624e3a7555819778c9c2b3145be1e45085212eff73f0c", func := "crossbar/crossbarlaw08.DialplanFeedStopsFirst", spec := "dialplanFeedStopsFirst", inPlace := ["internal/bytealg.IndexByteString", "internal/bytealg.IndexString"], unfollowed := true, recurses := true, named := ["unicode/utf8.first", "unicode/utf8.acceptRanges", "internal/bytealg.MaxLen"], apart := false, laid := [("unicode/utf8.acceptRanges", laid_unicode_utf8_acceptRanges), ("unicode/utf8.first", laid_unicode_utf8_first)], narrowed := true }
def DialplanFeedStopsFirstUptoSaid : Prop := dialplanFeedStopsFirstUptoRow.holds Tryd.pinned (OpenSpec.upto dialplanFeedStopsFirstSpec)

end Rows
end Go.Proofs.YtmendieiikmbhaaDoor
